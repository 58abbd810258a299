/- The walk of the law TableSums. -/
import Derived.Test.YtpeelnjkppdkbaaSumR
import Derived.Test.YtpeelnjkppdkbaaOver
import Derived.Test.YtpeelnjkppdkbaaRefL
import Derived.Deep.RegionWith
import Derived.Deep.RegionHeld3
namespace Go.Proofs.Ytpeelnjkppdkbaa
open Go.RowKit
set_option linter.unusedVariables false
set_option linter.unusedSimpArgs false

theorem svalue (b off n m c : Nat) (X Y : Nat → Int) (x : Int) (hn : n = m + 1) (hv : TabOK n X Y) (w : World) (ht : TabAt w b off n X Y) :
    Calls Try.prog 28 #[.slice (some ⟨b, off, none⟩) n c, .int .i64 x] w fun e w' => e = .returned (.int .i64 (Val.val X Y m x)) ∧ Below w.heap.size w w' := by
  have S := fun w ht => tfloor b off m c X Y x (hn ▸ hv) w ht
  rw [← hn] at S
  have S := Lib.hid S
  have HT := Lib.hid ht
  obtain ⟨v, hv2⟩ : ∃ v, v = Val.val X Y m x := ⟨_, rfl⟩
  rw [← hv2] at S
  rw [← hv2]
  clear hv ht hn hv2
  go_enter Try.func28, Try.ntmps28
  go_wp2_with (first | (go_at_call 13; (with_reducible refine (S.out _ HT.out).mono ?_); rintro e w1 ⟨rfl, hb1⟩; obtain ⟨hc1, hf1⟩ := bcell hb1; have hz1 := hb1.size; (try simp at hz1); (try simp only [heap_drew, World.heap_drewN] at hz1); (try simp only [heap_drew, World.heap_drewN] at hc1); (try simp only [heap_drew, World.heap_drewN] at hf1); (try have hs1 := Nat.lt_of_succ_le hz1); (try have hs2 := Nat.lt_of_succ_lt hs1); (try have y0 : w.heap.size < w1.heap.size := by omega); (try have y1 : w.heap.size + 1 < w1.heap.size := by omega); (try have y2 : w.heap.size + 2 < w1.heap.size := by omega)))
  go_ret
  refine ⟨rfl, ?_⟩
  (repeat' (first | assumption | exact Below.refl _ _ | exact Below.size (by assumption) | (refine Below.setCell ?_ ?_ _) | (refine Below.alloc ?_ ?_ _) | (refine Below.drew ?_) | (refine below_drewN ?_ _) | (refine Below.trans ?_ (Below.mono ‹Below _ _ _› ?_)) | omega | (simp; done) | (simp; omega) | (simp at *; omega)))
def SumPost (w : World) (n : Nat) (P Q : Nat → Int) (e : Ending) (w' : World) : Prop := ∃ g cap : Nat, e = .returned (.tuple #[.slice (some ⟨g, 0, none⟩) n cap, .int .i64 0]) ∧ TabAt w' g 0 n P Q ∧ Below w.heap.size w w'
set_option maxRecDepth 100000 in
set_option maxHeartbeats 4000000 in
theorem sums_good (ba oa na ma ca bb ob nb mb cb n m : Nat) (XA YA XB YB P Q : Nat → Int) (x vs va vb : Int) (w : World) (ea : na = ma + 1) (eb : nb = mb + 1) (en : n = m + 1) (hvA : TabOK na XA YA) (hvB : TabOK nb XB YB) (hA : TabAt w ba oa na XA YA) (hB : TabAt w bb ob nb XB YB)
    (la : na ≤ 50) (lb : nb ≤ 50) (hvS : TabOK n P Q) (h0 : P 0 = min (XA 0) (XB 0))
    (hknot : ∀ k, k < n → Val.val XA YA ma (P k) + Val.val XB YB mb (P k) ≤ Q k ∧ Q k ≤ Val.val XA YA ma (P k) + Val.val XB YB mb (P k) + 1)
    (hvs : vs = Val.val P Q m x) (hva : va = Val.val XA YA ma x) (hvb : vb = Val.val XB YB mb x) (hn1 : va + vb - 2 ≤ vs) (hn2 : vs ≤ va + vb + 1)
    (h1 : ∀ w, TabAt w ba oa na XA YA → TabAt w bb ob nb XB YB → Calls Try.prog 26 #[.slice (some ⟨ba, oa, none⟩) na ca, .slice (some ⟨bb, ob, none⟩) nb cb] w (SumPost w n P Q))
    (h2 : ∀ w, TabAt w ba oa na XA YA → TabAt w bb ob nb XB YB → Calls Try.prog 26 #[.slice (some ⟨bb, ob, none⟩) nb cb, .slice (some ⟨ba, oa, none⟩) na ca] w (SumPost w n P Q)) :
    Calls Try.prog 7 #[.slice (some ⟨ba, oa, none⟩) na ca, .slice (some ⟨bb, ob, none⟩) nb cb, .int .i64 x] w fun e w' => e = .returned (.bool true) ∧ Below w.heap.size w w' := by
  have SA := Lib.hid fun w => cawake w
  have V1 := Lib.hid fun w ht => rvalid ba oa na ca XA YA w hvA.1 hvA.2.1 ht
  have V2 := Lib.hid fun w ht => rvalid bb ob nb cb XB YB w hvB.1 hvB.2.1 ht
  have tv1 := tabB_true hvA
  have tv2 := tabB_true hvB
  have tv3 := tabB_true hvS
  have S1 := Lib.hid h1
  have S2 := Lib.hid h2
  have HSM := Lib.hid fun (g g' c c' : Nat) w ht ht' => rsame_tab g g' n c c' P Q w hvS.1 hvS.2.1 ht ht'
  have VS := Lib.hid fun (g c : Nat) w ht => tvalid g 0 n c P Q w hvS.1 hvS.2.1 ht
  have FA := Lib.hid fun z w ht => svalue ba oa na ma ca XA YA z ea hvA w ht
  have FB := Lib.hid fun z w ht => svalue bb ob nb mb cb XB YB z eb hvB w ht
  have FS := Lib.hid fun (g c : Nat) w ht => svalue g 0 n m c P Q x en hvS w ht
  have FA' := Lib.hid fun w ht => svalue ba oa na ma ca XA YA x ea hvA w ht
  have FB' := Lib.hid fun w ht => svalue bb ob nb mb cb XB YB x eb hvB w ht
  rw [← hvs] at FS
  rw [← hva] at FA'
  rw [← hvb] at FB'
  have bA := fun z => val_in z (ea ▸ hvA)
  have bB := fun z => val_in z (eb ▸ hvB)
  have HBA := Lib.hid bA
  have HBB := Lib.hid bB
  have HK := Lib.hid hknot
  have HA := Lib.hid hA
  have HB := Lib.hid hB
  have HSN := Lib.hid hvS
  have hba := hA.1
  have hbb := hB.1
  have t1 : decide ((50 : Int) < (na : Int)) = false := decide_eq_false (by omega)
  have t2 : decide ((50 : Int) < (nb : Int)) = false := decide_eq_false (by omega)
  have t1' : decide (50 < na) = false := decide_eq_false (by omega)
  have t2' : decide (50 < nb) = false := decide_eq_false (by omega)
  have j1 : 0 < na := by omega
  have j2 : 0 < nb := by omega
  have j3 : 0 < n := by omega
  have i1 : (0 : Int) < (na : Int) := by omega
  have i2 : (0 : Int) < (nb : Int) := by omega
  have i3 : (0 : Int) < (n : Int) := by omega
  obtain ⟨a0, ha0⟩ : ∃ z, z = XA 0 := ⟨_, rfl⟩
  obtain ⟨b0, hb0⟩ : ∃ z, z = XB 0 := ⟨_, rfl⟩
  obtain ⟨p0, hp0⟩ : ∃ z, z = P 0 := ⟨_, rfl⟩
  have hmin : min a0 b0 = p0 := by rw [ha0, hb0, hp0, h0]
  have HXA : Hid (∀ w, TabAt w ba oa na XA YA → w.cell? ⟨ba, oa, none⟩ = some (.int .i64 a0)) := by
    intro w h; have a := (h.2 0 j1).1; simp only [Nat.zero_mul, Nat.add_zero] at a; rw [ha0]; exact a
  have HXB : Hid (∀ w, TabAt w bb ob nb XB YB → w.cell? ⟨bb, ob, none⟩ = some (.int .i64 b0)) := by
    intro w h; have a := (h.2 0 j2).1; simp only [Nat.zero_mul, Nat.add_zero] at a; rw [hb0]; exact a
  have HXS : Hid (∀ w g, TabAt w g 0 n P Q → w.cell? ⟨g, 0, none⟩ = some (.int .i64 p0)) := by
    intro w g h; have a := (h.2 0 j3).1; simp only [Nat.zero_mul, Nat.add_zero] at a; rw [hp0]; exact a
  have H100 : Hid (n ≤ 100) := hvS.2.1
  obtain ⟨sv, hsv⟩ : ∃ z, z = va + vb := ⟨_, rfl⟩
  have va1 : inB va := by rw [hva]; exact bA x
  have vb1 : inB vb := by rw [hvb]; exact bB x
  unfold inB at va1 vb1
  have u1 : IntKind.i64.wrap (va + vb) = sv := by rw [hsv, IntKind.wrap_i64]; omega
  have u2 : IntKind.i64.wrap (sv - 2) = sv - 2 := by rw [IntKind.wrap_i64]; omega
  have u3 : IntKind.i64.wrap (sv + 1) = sv + 1 := by rw [IntKind.wrap_i64]; omega
  have t3 : decide (sv - 2 ≤ vs) = true := decide_eq_true (by omega)
  have t4 : decide (vs ≤ sv + 1) = true := decide_eq_true (by omega)
  clear h1 h2 hvA hvB hA hB hvS hknot bA bB ea eb en la lb ha0 hb0 hp0 h0 hvs hva hvb hn1 hn2 hsv va1 vb1
  go_enter Try.func7, Try.ntmps7
  go_upto_region 12 with (first
    | ((go_at_call 10; (with_reducible refine (SA.out _).mono ?_); rintro e w1 ⟨rfl, hb1⟩; obtain ⟨hc1, hf1⟩ := bcell hb1; have hz1 := hb1.size; (try simp at hz1); (try simp only [heap_drew, World.heap_drewN] at hz1); (try simp only [heap_drew, World.heap_drewN] at hc1); (try simp only [heap_drew, World.heap_drewN] at hf1); (try have hs1 := Nat.lt_of_succ_le hz1); (try have hs2 := Nat.lt_of_succ_lt hs1); (try have y0 : w.heap.size < w1.heap.size := by omega); (try have y1 : w.heap.size + 1 < w1.heap.size := by omega); (try have y2 : w.heap.size + 2 < w1.heap.size := by omega))
       have HW1 := Lib.hid hb1
       clear hc1 hf1 hb1)
    | ((go_at_call 12; (with_reducible refine (V1.out _ ?_).mono ?_); (focus (exact HA.out.below HW1.out hba)); rintro e w2 ⟨rfl, hb2⟩; obtain ⟨hc2, hf2⟩ := bcell hb2; have hz2 := hb2.size; (try simp at hz2); (try simp only [heap_drew, World.heap_drewN] at hz2); (try simp only [heap_drew, World.heap_drewN] at hc2); (try simp only [heap_drew, World.heap_drewN] at hf2); (try have hs1 := Nat.lt_of_succ_le hz2); (try have hs2 := Nat.lt_of_succ_lt hs1); (try have y0 : w.heap.size < w2.heap.size := by omega); (try have y1 : w.heap.size + 1 < w2.heap.size := by omega); (try have y2 : w.heap.size + 2 < w2.heap.size := by omega))
       have HW2 := Lib.hid (below_step HW1.out hb2)
       clear hc2 hf2 hb2)
    | ((go_at_call 12; (with_reducible refine (V2.out _ ?_).mono ?_); (focus (exact HB.out.below HW2.out hbb)); rintro e w3 ⟨rfl, hb3⟩; obtain ⟨hc3, hf3⟩ := bcell hb3; have hz3 := hb3.size; (try simp at hz3); (try simp only [heap_drew, World.heap_drewN] at hz3); (try simp only [heap_drew, World.heap_drewN] at hc3); (try simp only [heap_drew, World.heap_drewN] at hf3); (try have hs1 := Nat.lt_of_succ_le hz3); (try have hs2 := Nat.lt_of_succ_lt hs1); (try have y0 : w.heap.size < w3.heap.size := by omega); (try have y1 : w.heap.size + 1 < w3.heap.size := by omega); (try have y2 : w.heap.size + 2 < w3.heap.size := by omega))
       have HW3 := Lib.hid (below_step HW2.out hb3)
       clear hc3 hf3 hb3)
    | (go_at_call 26
       with_reducible refine (S1.out _ ?_ ?_).mono ?_
       focus (exact HA.out.below HW3.out hba)
       focus (exact HB.out.below HW3.out hbb)
       rintro e w4 ⟨g, cap, rfl, hT4, hb4⟩
       have HW4 := Lib.hid (below_step HW3.out hb4)
       have HS4 := Lib.hid hT4
       clear hT4 hb4)
    | (go_at_call 26
       with_reducible refine (S2.out _ ?_ ?_).mono ?_
       focus (exact HA.out.below HW4.out hba)
       focus (exact HB.out.below HW4.out hbb)
       rintro e w5 ⟨g', cap', rfl, hT5, hb5⟩
       have HW5 := Lib.hid (below_step HW4.out hb5)
       have HS5 := Lib.hid (HS4.out.below hb5 HS4.out.1)
       have HT5 := Lib.hid hT5
       clear hT5 hb5)
    | ((go_at_call 27; (with_reducible refine (HSM.out _ _ _ _ _ HS5.out HT5.out).mono ?_); rintro e w6 ⟨rfl, hb6⟩; obtain ⟨hc6, hf6⟩ := bcell hb6; have hz6 := hb6.size; (try simp at hz6); (try simp only [heap_drew, World.heap_drewN] at hz6); (try simp only [heap_drew, World.heap_drewN] at hc6); (try simp only [heap_drew, World.heap_drewN] at hf6); (try have hs1 := Nat.lt_of_succ_le hz6); (try have hs2 := Nat.lt_of_succ_lt hs1); (try have y0 : w.heap.size < w6.heap.size := by omega); (try have y1 : w.heap.size + 1 < w6.heap.size := by omega); (try have y2 : w.heap.size + 2 < w6.heap.size := by omega))
       have HW6 := Lib.hid (below_step HW5.out hb6)
       have HS6 := Lib.hid (HS5.out.below hb6 HS5.out.1)
       clear hc6 hf6 hb6))
  have HD6 : Hid (TabAt w6.drew g 0 n P Q) := HS6.out
  have HE6 : Hid (Below w.heap.size w w6.drew) := HW6.out.drew
  have x1 := HXA.out w6 (HA.out.below HW6.out hba)
  have x2 := HXB.out w6 (HB.out.below HW6.out hbb)
  have x3 := HXS.out w6 _ HS6.out
  have y1 : ba < w6.heap.size := Nat.lt_of_lt_of_le hba HW6.out.size
  have y2 : bb < w6.heap.size := Nat.lt_of_lt_of_le hbb HW6.out.size
  have y3 := HS6.out.1
  go_cut [85] from 67 to 84 (fun s wx => s = .bool false ∧ Below w.heap.size w wx ∧ TabAt wx g 0 n P Q)
  case first =>
    go_region_held3 (fun w' => w'.cell? ⟨ba, oa, none⟩ = some (.int .i64 a0) ∧ w'.cell? ⟨bb, ob, none⟩ = some (.int .i64 b0) ∧ w'.cell? ⟨g, 0, none⟩ = some (.int .i64 p0)) (first | exact ⟨x1, x2, x3⟩ | exact ⟨z1, z2, z3⟩) (first
      | ((go_at_call 16; (with_reducible refine (VS.out _ _ _ ?_).mono ?_); (focus (exact HD6.out)); rintro e w7 ⟨rfl, hb7⟩; obtain ⟨hc7, hf7⟩ := bcell hb7; have hz7 := hb7.size; (try simp at hz7); (try simp only [heap_drew, World.heap_drewN] at hz7); (try simp only [heap_drew, World.heap_drewN] at hc7); (try simp only [heap_drew, World.heap_drewN] at hf7); (try have hs1 := Nat.lt_of_succ_le hz7); (try have hs2 := Nat.lt_of_succ_lt hs1); (try have y0 : w.heap.size < w7.heap.size := by omega); (try have y1 : w.heap.size + 1 < w7.heap.size := by omega); (try have y2 : w.heap.size + 2 < w7.heap.size := by omega))
         have HW7 := Lib.hid (below_step HE6.out hb7)
         have HS7 := Lib.hid (HD6.out.below hb7 HD6.out.1)
         have z1 := HXA.out w7 (HA.out.below HW7.out hba)
         have z2 := HXB.out w7 (HB.out.below HW7.out hbb)
         have z3 := HXS.out w7 _ HS7.out
         clear hc7 hf7 hb7))
    all_goals (go_wp2_with fail; go_meet)
    all_goals (exact ⟨by simp [*], HW7.out, HS7.out⟩)
  case rest =>
    obtain ⟨rfl, hwx, hsx⟩ := hcut
    have HWX := Lib.hid hwx
    have HSX := Lib.hid hsx
    go_wp2_with fail
    go_loopw [88] (fun u wr => ∃ i : Nat, Hid (i ≤ n) ∧ u = .int .i64 i ∧ Hid (Below w.heap.size w wr) ∧ Hid (TabAt wr g 0 n P Q)) (fun u _ => n - (intOf u).toNat)
    case atStart => exact ⟨0, Nat.zero_le _, rfl, HWX, HSX⟩
    case round =>
      obtain ⟨i, Hi, rfl, HW, HS⟩ := hrel
      by_cases hlt : i < n
      · have T0 : decide ((i : Int) < (n : Int)) = true := by simp <;> omega
        have T0' : decide (i < n) = true := decide_eq_true hlt
        obtain ⟨i', hi'⟩ : ∃ z, z = i + 1 := ⟨_, rfl⟩
        have x0 : IntKind.i64.wrap ((i : Int) + 1) = (i' : Int) := by have := H100.out; rw [IntKind.wrap_i64]; omega
        have HI' : Hid (i' ≤ n) := by show i' ≤ n; omega
        have HMS : Hid (n - (intOf (Value.int .i64 (i' : Int))).toNat < n - (intOf (Value.int .i64 (i : Int))).toNat) := by show _ < _; simp [intOf]; omega
        have hp := (HS.out.2 i hlt).1
        have hq := (HS.out.2 i hlt).2
        simp only [Nat.zero_add] at hp hq
        have k0 : (0 : Int) ≤ (i : Int) := by omega
        have k1 : (i : Int) < (n : Int) := by omega
        have yg := HS.out.1
        have hk := HK.out i hlt
        have GA := Lib.hid (FA.out (P i))
        have GB := Lib.hid (FB.out (P i))
        have ba1 := HBA.out (P i)
        have bb1 := HBB.out (P i)
        unfold inB at ba1 bb1
        obtain ⟨px, hpx⟩ : ∃ z, z = P i := ⟨_, rfl⟩
        obtain ⟨qx, hqx⟩ : ∃ z, z = Q i := ⟨_, rfl⟩
        rw [← hpx] at hp GA GB hk ba1 bb1
        rw [← hqx] at hq hk
        obtain ⟨ax, hax⟩ : ∃ z, z = Val.val XA YA ma px := ⟨_, rfl⟩
        obtain ⟨bx, hbx⟩ : ∃ z, z = Val.val XB YB mb px := ⟨_, rfl⟩
        rw [← hax] at GA hk ba1
        rw [← hbx] at GB hk bb1
        obtain ⟨mx, hmx⟩ : ∃ z, z = ax + bx := ⟨_, rfl⟩
        obtain ⟨m1, hm1⟩ : ∃ z, z = mx + 1 := ⟨_, rfl⟩
        have v1 : IntKind.i64.wrap (ax + bx) = mx := by rw [hmx, IntKind.wrap_i64]; omega
        have v2 : IntKind.i64.wrap (mx + 1) = m1 := by rw [hm1, IntKind.wrap_i64]; omega
        have w1' : decide (qx < mx) = false := decide_eq_false (by omega)
        have w2' : decide (m1 < qx) = false := decide_eq_false (by omega)
        clear hi' hlt hk ba1 bb1 hpx hqx hax hbx hmx hm1
        go_upto_region 17 with fail
        have hbk : Below wr.heap.size wr (wr.alloc (Obj.cells #[.int .i64 px, .int .i64 qx] 47)) := by (repeat' (first | assumption | exact Below.refl _ _ | exact Below.size (by assumption) | (refine Below.setCell ?_ ?_ _) | (refine Below.alloc ?_ ?_ _) | (refine Below.drew ?_) | (refine below_drewN ?_ _) | (refine Below.trans ?_ (Below.mono ‹Below _ _ _› ?_)) | omega | (simp; done) | (simp; omega) | (simp at *; omega)))
        have hK : Blk (wr.alloc (Obj.cells #[.int .i64 px, .int .i64 qx] 47)) wr.heap.size 47 #[.int .i64 px, .int .i64 qx] := Blk.new _ _ _
        have HWk := Lib.hid (below_step HW.out hbk)
        have HSk := Lib.hid (HS.out.below hbk HS.out.1)
        generalize wr.alloc (Obj.cells #[.int .i64 px, .int .i64 qx] 47) = wk at hbk hK HWk HSk ⊢
        generalize wr.heap.size = G at hbk hK ⊢
        have HKK := Lib.hid hK
        clear hbk hK hp hq
        have HWd : Hid (Below w.heap.size w wk.drew) := HWk.out.drew
        have HSd : Hid (TabAt wk.drew g 0 n P Q) := HSk.out
        have HKd : Hid (Blk wk.drew G 47 #[.int .i64 px, .int .i64 qx]) := HKK.out
        have x1 := HKK.out.cell 0
        simp only [List.getElem?_toArray, List.getElem?_cons_zero] at x1
        go_cut [14] from 92 to 102 (fun s wx => s = .int .i64 mx ∧ Below w.heap.size w wx ∧ TabAt wx g 0 n P Q ∧ Blk wx G 47 #[.int .i64 px, .int .i64 qx])
        case first =>
          go_region_held3 (fun w' => w'.cell? ⟨G, 0, none⟩ = some (.int .i64 px)) (first | exact x1 | exact z13 | exact z14) (first
            | (go_at_call 28
               with_reducible refine (GA.out _ ?_).mono ?_
               focus (exact HA.out.below (by first | exact HW14.out | exact HWd.out) hba)
               rintro e w13 ⟨rfl, hb13⟩
               have HW13 : Hid (Below w.heap.size w w13) := (by first | exact below_step HW14.out hb13 | exact below_step HWd.out hb13)
               have HS13 : Hid (TabAt w13 g 0 n P Q) := (by first | exact HS14.out.below hb13 HS14.out.1 | exact HSd.out.below hb13 HSd.out.1)
               have HK13 : Hid (Blk w13 G 47 #[.int .i64 px, .int .i64 qx]) := (by first | exact HK14.out.call hb13 | exact HKd.out.call hb13)
               have z13 := HK13.out.cell 0
               simp only [List.getElem?_toArray, List.getElem?_cons_zero] at z13
               clear hb13)
            | (go_at_call 28
               with_reducible refine (GB.out _ ?_).mono ?_
               focus (exact HB.out.below (by first | exact HW13.out | exact HWd.out) hbb)
               rintro e w14 ⟨rfl, hb14⟩
               have HW14 : Hid (Below w.heap.size w w14) := (by first | exact below_step HW13.out hb14 | exact below_step HWd.out hb14)
               have HS14 : Hid (TabAt w14 g 0 n P Q) := (by first | exact HS13.out.below hb14 HS13.out.1 | exact HSd.out.below hb14 HSd.out.1)
               have HK14 : Hid (Blk w14 G 47 #[.int .i64 px, .int .i64 qx]) := (by first | exact HK13.out.call hb14 | exact HKd.out.call hb14)
               have z14 := HK14.out.cell 0
               simp only [List.getElem?_toArray, List.getElem?_cons_zero] at z14
               clear hb14))
          all_goals (go_wp2_with fail; go_meet)
          all_goals (first | exact ⟨by simp [*], HW14.out, HS14.out, HK14.out⟩ | exact ⟨by simp [*], HW13.out, HS13.out, HK13.out⟩)
        case rest =>
          obtain ⟨rfl, hwx, hsx, hkx⟩ := hcut
          have HWX2 := Lib.hid hwx
          have HSX2 := Lib.hid hsx
          have d0 := hkx.cell 0
          have d1 := hkx.cell 1
          simp only [List.getElem?_toArray, List.getElem?_cons_succ, List.getElem?_cons_zero] at d0 d1
          clear hwx hsx hkx
          go_wp2_with fail
          go_roundw
          case rel => exact ⟨i', HI', rfl, HWX2, HSX2⟩
          case measure => exact HMS.out
      · have e : i = n := by have := Hi.out; omega
        have T0 : decide ((i : Int) < (n : Int)) = false := by simp <;> omega
        have T0' : decide (i < n) = false := decide_eq_false hlt
        clear e hlt
        go_wp2_with (first
          | ((go_at_call 28; (with_reducible refine (FS.out _ _ _ ?_).mono ?_); (focus (exact HS.out)); rintro e w8 ⟨rfl, hb8⟩; obtain ⟨hc8, hf8⟩ := bcell hb8; have hz8 := hb8.size; (try simp at hz8); (try simp only [heap_drew, World.heap_drewN] at hz8); (try simp only [heap_drew, World.heap_drewN] at hc8); (try simp only [heap_drew, World.heap_drewN] at hf8); (try have hs1 := Nat.lt_of_succ_le hz8); (try have hs2 := Nat.lt_of_succ_lt hs1); (try have y0 : w.heap.size < w8.heap.size := by omega); (try have y1 : w.heap.size + 1 < w8.heap.size := by omega); (try have y2 : w.heap.size + 2 < w8.heap.size := by omega))
             have HW8 := Lib.hid (below_step HW.out hb8)
             clear hc8 hf8 hb8)
          | ((go_at_call 28; (with_reducible refine (FA'.out _ ?_).mono ?_); (focus (exact HA.out.below HW8.out hba)); rintro e w9 ⟨rfl, hb9⟩; obtain ⟨hc9, hf9⟩ := bcell hb9; have hz9 := hb9.size; (try simp at hz9); (try simp only [heap_drew, World.heap_drewN] at hz9); (try simp only [heap_drew, World.heap_drewN] at hc9); (try simp only [heap_drew, World.heap_drewN] at hf9); (try have hs1 := Nat.lt_of_succ_le hz9); (try have hs2 := Nat.lt_of_succ_lt hs1); (try have y0 : w.heap.size < w9.heap.size := by omega); (try have y1 : w.heap.size + 1 < w9.heap.size := by omega); (try have y2 : w.heap.size + 2 < w9.heap.size := by omega))
             have HW9 := Lib.hid (below_step HW8.out hb9)
             clear hc9 hf9 hb9)
          | ((go_at_call 28; (with_reducible refine (FB'.out _ ?_).mono ?_); (focus (exact HB.out.below HW9.out hbb)); rintro e w10 ⟨rfl, hb10⟩; obtain ⟨hc10, hf10⟩ := bcell hb10; have hz10 := hb10.size; (try simp at hz10); (try simp only [heap_drew, World.heap_drewN] at hz10); (try simp only [heap_drew, World.heap_drewN] at hc10); (try simp only [heap_drew, World.heap_drewN] at hf10); (try have hs1 := Nat.lt_of_succ_le hz10); (try have hs2 := Nat.lt_of_succ_lt hs1); (try have y0 : w.heap.size < w10.heap.size := by omega); (try have y1 : w.heap.size + 1 < w10.heap.size := by omega); (try have y2 : w.heap.size + 2 < w10.heap.size := by omega))
             have HW10 := Lib.hid (below_step HW9.out hb10)
             clear hc10 hf10 hb10))
        go_ret
        exact ⟨by simp, HW10.out⟩
set_option maxRecDepth 100000 in
set_option maxHeartbeats 2000000 in
theorem sums_walk (A B : Option Addr) (na ca nb cb : Nat) (XA YA XB YB : Nat → Int) (x : Int) (w : World) (hTA : TabIn w A na XA YA) (hTB : TabIn w B nb XB YB) :
    Calls Try.prog 7 #[.slice A na ca, .slice B nb cb, .int .i64 x] w fun e w' => e = .returned (.bool true) ∧ Below w.heap.size w w' := by
  have SA := Lib.hid fun w => cawake w
  have HTA := Lib.hid hTA
  have HTB := Lib.hid hTB
  have V1 := Lib.hid fun w h => rvalid_any A na ca XA YA w h
  have V2 := Lib.hid fun w h => rvalid_any B nb cb XB YB w h
  by_cases oA : TabOK na XA YA
  · have tv1 := tabB_true oA
    by_cases oB : TabOK nb XB YB
    · have tv2 := tabB_true oB
      by_cases la : 50 < na
      · have t1 : decide ((50 : Int) < (na : Int)) = true := decide_eq_true (by omega)
        have t1' : decide (50 < na) = true := decide_eq_true la
        clear hTA hTB oA oB la
        go_enter Try.func7, Try.ntmps7
        go_wp2_with (first | (go_at_call 10; (with_reducible refine (SA.out _).mono ?_); rintro e w1 ⟨rfl, hb1⟩; obtain ⟨hc1, hf1⟩ := bcell hb1; have hz1 := hb1.size; (try simp at hz1); (try simp only [heap_drew, World.heap_drewN] at hz1); (try simp only [heap_drew, World.heap_drewN] at hc1); (try simp only [heap_drew, World.heap_drewN] at hf1); (try have hs1 := Nat.lt_of_succ_le hz1); (try have hs2 := Nat.lt_of_succ_lt hs1); (try have y0 : w.heap.size < w1.heap.size := by omega); (try have y1 : w.heap.size + 1 < w1.heap.size := by omega); (try have y2 : w.heap.size + 2 < w1.heap.size := by omega)) | (go_at_call 12; (with_reducible refine (V1.out _ ?_).mono ?_); (focus (exact HTA.out.below (Nat.le_refl _) (by (repeat' (first | assumption | exact Below.refl _ _ | exact Below.size (by assumption) | (refine Below.setCell ?_ ?_ _) | (refine Below.alloc ?_ ?_ _) | (refine Below.drew ?_) | (refine below_drewN ?_ _) | (refine Below.trans ?_ (Below.mono ‹Below _ _ _› ?_)) | omega | (simp; done) | (simp; omega) | (simp at *; omega)))))); rintro e w2 ⟨rfl, hb2⟩; obtain ⟨hc2, hf2⟩ := bcell hb2; have hz2 := hb2.size; (try simp at hz2); (try simp only [heap_drew, World.heap_drewN] at hz2); (try simp only [heap_drew, World.heap_drewN] at hc2); (try simp only [heap_drew, World.heap_drewN] at hf2); (try have hs1 := Nat.lt_of_succ_le hz2); (try have hs2 := Nat.lt_of_succ_lt hs1); (try have y0 : w.heap.size < w2.heap.size := by omega); (try have y1 : w.heap.size + 1 < w2.heap.size := by omega); (try have y2 : w.heap.size + 2 < w2.heap.size := by omega)) | (go_at_call 12; (with_reducible refine (V2.out _ ?_).mono ?_); (focus (exact HTB.out.below (Nat.le_refl _) (by (repeat' (first | assumption | exact Below.refl _ _ | exact Below.size (by assumption) | (refine Below.setCell ?_ ?_ _) | (refine Below.alloc ?_ ?_ _) | (refine Below.drew ?_) | (refine below_drewN ?_ _) | (refine Below.trans ?_ (Below.mono ‹Below _ _ _› ?_)) | omega | (simp; done) | (simp; omega) | (simp at *; omega)))))); rintro e w3 ⟨rfl, hb3⟩; obtain ⟨hc3, hf3⟩ := bcell hb3; have hz3 := hb3.size; (try simp at hz3); (try simp only [heap_drew, World.heap_drewN] at hz3); (try simp only [heap_drew, World.heap_drewN] at hc3); (try simp only [heap_drew, World.heap_drewN] at hf3); (try have hs1 := Nat.lt_of_succ_le hz3); (try have hs2 := Nat.lt_of_succ_lt hs1); (try have y0 : w.heap.size < w3.heap.size := by omega); (try have y1 : w.heap.size + 1 < w3.heap.size := by omega); (try have y2 : w.heap.size + 2 < w3.heap.size := by omega)))
        go_ret
        refine ⟨rfl, ?_⟩
        (repeat' (first | assumption | exact Below.refl _ _ | exact Below.size (by assumption) | (refine Below.setCell ?_ ?_ _) | (refine Below.alloc ?_ ?_ _) | (refine Below.drew ?_) | (refine below_drewN ?_ _) | (refine Below.trans ?_ (Below.mono ‹Below _ _ _› ?_)) | omega | (simp; done) | (simp; omega) | (simp at *; omega)))
      · have t1 : decide ((50 : Int) < (na : Int)) = false := decide_eq_false (by omega)
        have t1' : decide (50 < na) = false := decide_eq_false la
        by_cases lb : 50 < nb
        · have t2 : decide ((50 : Int) < (nb : Int)) = true := decide_eq_true (by omega)
          have t2' : decide (50 < nb) = true := decide_eq_true lb
          clear hTA hTB oA oB la lb
          go_enter Try.func7, Try.ntmps7
          go_wp2_with (first | (go_at_call 10; (with_reducible refine (SA.out _).mono ?_); rintro e w1 ⟨rfl, hb1⟩; obtain ⟨hc1, hf1⟩ := bcell hb1; have hz1 := hb1.size; (try simp at hz1); (try simp only [heap_drew, World.heap_drewN] at hz1); (try simp only [heap_drew, World.heap_drewN] at hc1); (try simp only [heap_drew, World.heap_drewN] at hf1); (try have hs1 := Nat.lt_of_succ_le hz1); (try have hs2 := Nat.lt_of_succ_lt hs1); (try have y0 : w.heap.size < w1.heap.size := by omega); (try have y1 : w.heap.size + 1 < w1.heap.size := by omega); (try have y2 : w.heap.size + 2 < w1.heap.size := by omega)) | (go_at_call 12; (with_reducible refine (V1.out _ ?_).mono ?_); (focus (exact HTA.out.below (Nat.le_refl _) (by (repeat' (first | assumption | exact Below.refl _ _ | exact Below.size (by assumption) | (refine Below.setCell ?_ ?_ _) | (refine Below.alloc ?_ ?_ _) | (refine Below.drew ?_) | (refine below_drewN ?_ _) | (refine Below.trans ?_ (Below.mono ‹Below _ _ _› ?_)) | omega | (simp; done) | (simp; omega) | (simp at *; omega)))))); rintro e w2 ⟨rfl, hb2⟩; obtain ⟨hc2, hf2⟩ := bcell hb2; have hz2 := hb2.size; (try simp at hz2); (try simp only [heap_drew, World.heap_drewN] at hz2); (try simp only [heap_drew, World.heap_drewN] at hc2); (try simp only [heap_drew, World.heap_drewN] at hf2); (try have hs1 := Nat.lt_of_succ_le hz2); (try have hs2 := Nat.lt_of_succ_lt hs1); (try have y0 : w.heap.size < w2.heap.size := by omega); (try have y1 : w.heap.size + 1 < w2.heap.size := by omega); (try have y2 : w.heap.size + 2 < w2.heap.size := by omega)) | (go_at_call 12; (with_reducible refine (V2.out _ ?_).mono ?_); (focus (exact HTB.out.below (Nat.le_refl _) (by (repeat' (first | assumption | exact Below.refl _ _ | exact Below.size (by assumption) | (refine Below.setCell ?_ ?_ _) | (refine Below.alloc ?_ ?_ _) | (refine Below.drew ?_) | (refine below_drewN ?_ _) | (refine Below.trans ?_ (Below.mono ‹Below _ _ _› ?_)) | omega | (simp; done) | (simp; omega) | (simp at *; omega)))))); rintro e w3 ⟨rfl, hb3⟩; obtain ⟨hc3, hf3⟩ := bcell hb3; have hz3 := hb3.size; (try simp at hz3); (try simp only [heap_drew, World.heap_drewN] at hz3); (try simp only [heap_drew, World.heap_drewN] at hc3); (try simp only [heap_drew, World.heap_drewN] at hf3); (try have hs1 := Nat.lt_of_succ_le hz3); (try have hs2 := Nat.lt_of_succ_lt hs1); (try have y0 : w.heap.size < w3.heap.size := by omega); (try have y1 : w.heap.size + 1 < w3.heap.size := by omega); (try have y2 : w.heap.size + 2 < w3.heap.size := by omega)))
          go_ret
          refine ⟨rfl, ?_⟩
          (repeat' (first | assumption | exact Below.refl _ _ | exact Below.size (by assumption) | (refine Below.setCell ?_ ?_ _) | (refine Below.alloc ?_ ?_ _) | (refine Below.drew ?_) | (refine below_drewN ?_ _) | (refine Below.trans ?_ (Below.mono ‹Below _ _ _› ?_)) | omega | (simp; done) | (simp; omega) | (simp at *; omega)))
        · have t2 : decide ((50 : Int) < (nb : Int)) = false := decide_eq_false (by omega)
          have t2' : decide (50 < nb) = false := decide_eq_false lb
          rcases hTA.2 with h0 | ⟨ba, oa, rfl, hA⟩
          · have := oA.1; omega
          rcases hTB.2 with h0 | ⟨bb, ob, rfl, hB⟩
          · have := oB.1; omega
          obtain ⟨ma, ea⟩ : ∃ m, na = m + 1 := ⟨na - 1, by have := oA.1; omega⟩
          obtain ⟨mb, eb⟩ : ∃ m, nb = m + 1 := ⟨nb - 1, by have := oB.1; omega⟩
          have aA := asc_of (ea ▸ oA)
          have aB := asc_of (eb ▸ oB)
          have hS := sumOf na nb ma mb XA YA XB YB
          obtain ⟨PL, hPL⟩ : ∃ L, L = addP na XA YA nb XB YB := ⟨_, rfl⟩
          rw [← hPL] at hS
          obtain ⟨n, hn⟩ : ∃ n, n = PL.length := ⟨_, rfl⟩
          rw [← hn] at hS
          have T1 := fun w h h' => tadd ba oa na ma ca bb ob nb mb cb n XA YA XB YB PL hPL hn w ea eb oA oB h h'
          have T2 := fun w h h' => tadd bb ob nb mb cb ba oa na ma ca n XB YB XA YA PL (hPL.trans (addP_comm na nb XA YA XB YB)) hn w eb ea oB oA h' h
          have eQ : (fun k => addY XB YB mb XA YA ma (PL.getD k 0)) = (fun k => addY XA YA ma XB YB mb (PL.getD k 0)) := funext fun k => addY_comm _ _ _ _ _ _ _
          rw [eQ] at T2
          obtain ⟨P, hP⟩ : ∃ P : Nat → Int, P = fun k => PL.getD k 0 := ⟨_, rfl⟩
          obtain ⟨Q, hQ⟩ : ∃ Q : Nat → Int, Q = fun k => addY XA YA ma XB YB mb (PL.getD k 0) := ⟨_, rfl⟩
          rw [← hP, ← hQ] at T1 T2 hS
          have h100 : n ≤ 100 := by have := hS.le; omega
          by_cases hin : ∀ k, k < n → inB (Q k)
          · obtain ⟨m, en⟩ : ∃ m, n = m + 1 := ⟨n - 1, by obtain ⟨i, hi, _⟩ := hS.memA 0 (by omega); omega⟩
            have near := hS.near ea eb aA aB en x
            refine sums_good ba oa na ma ca bb ob nb mb cb n m XA YA XB YB P Q x _ _ _ w ea eb en oA oB hA hB (by omega) (by omega) (hS.tab oA oB ea eb aA aB h100 hin) (hS.first ea eb aA aB) (fun k hk => ?_) rfl rfl rfl near.1 near.2 (fun w h h' => (T1 w h h').mono ?_) (fun w h h' => (T2 w h h').mono ?_)
            · rw [hS.val k hk]; unfold addY; split <;> omega
            · rintro e w' (⟨h, _⟩ | ⟨_, ⟨k, hk, hq⟩, _⟩ | ⟨_, _, g, cap, he, _, hT, hb⟩)
              · omega
              · exact absurd (hin k hk) hq
              · exact ⟨g, cap, he, hT, hb⟩
            · rintro e w' (⟨h, _⟩ | ⟨_, ⟨k, hk, hq⟩, _⟩ | ⟨_, _, g, cap, he, _, hT, hb⟩)
              · omega
              · exact absurd (hin k hk) hq
              · exact ⟨g, cap, he, hT, hb⟩
          · have B1 := Lib.hid (fun w h h' => (T1 w h h').mono (R' := fun e w' => e = .returned (.tuple #[.slice none 0 0, .int .i64 5]) ∧ Below w.heap.size w w') (by
              rintro e w' (⟨h, _⟩ | ⟨_, _, he, hb⟩ | ⟨_, hall, _⟩)
              · omega
              · exact ⟨he, hb⟩
              · exact absurd hall hin))
            have B2 := Lib.hid (fun w h h' => (T2 w h h').mono (R' := fun e w' => e = .returned (.tuple #[.slice none 0 0, .int .i64 5]) ∧ Below w.heap.size w w') (by
              rintro e w' (⟨h, _⟩ | ⟨_, _, he, hb⟩ | ⟨_, hall, _⟩)
              · omega
              · exact ⟨he, hb⟩
              · exact absurd hall hin))
            have SN := Lib.hid fun w => rsame_nil w
            have HA := Lib.hid hA
            have HB := Lib.hid hB
            have hba := hA.1
            have hbb := hB.1
            clear T1 T2 hS hP hQ hPL hn h100 hin hTA hTB oA oB la lb hA hB ea eb aA aB eQ
            go_enter Try.func7, Try.ntmps7
            go_wp2_with (first
              | ((go_at_call 10; (with_reducible refine (SA.out _).mono ?_); rintro e w1 ⟨rfl, hb1⟩; obtain ⟨hc1, hf1⟩ := bcell hb1; have hz1 := hb1.size; (try simp at hz1); (try simp only [heap_drew, World.heap_drewN] at hz1); (try simp only [heap_drew, World.heap_drewN] at hc1); (try simp only [heap_drew, World.heap_drewN] at hf1); (try have hs1 := Nat.lt_of_succ_le hz1); (try have hs2 := Nat.lt_of_succ_lt hs1); (try have y0 : w.heap.size < w1.heap.size := by omega); (try have y1 : w.heap.size + 1 < w1.heap.size := by omega); (try have y2 : w.heap.size + 2 < w1.heap.size := by omega))
                 have HW1 := Lib.hid hb1
                 clear hc1 hf1 hb1)
              | ((go_at_call 12; (with_reducible refine (V1.out _ ?_).mono ?_); (focus (exact HTA.out.below (Nat.le_refl _) HW1.out)); rintro e w2 ⟨rfl, hb2⟩; obtain ⟨hc2, hf2⟩ := bcell hb2; have hz2 := hb2.size; (try simp at hz2); (try simp only [heap_drew, World.heap_drewN] at hz2); (try simp only [heap_drew, World.heap_drewN] at hc2); (try simp only [heap_drew, World.heap_drewN] at hf2); (try have hs1 := Nat.lt_of_succ_le hz2); (try have hs2 := Nat.lt_of_succ_lt hs1); (try have y0 : w.heap.size < w2.heap.size := by omega); (try have y1 : w.heap.size + 1 < w2.heap.size := by omega); (try have y2 : w.heap.size + 2 < w2.heap.size := by omega))
                 have HW2 := Lib.hid (below_step HW1.out hb2)
                 clear hc2 hf2 hb2)
              | ((go_at_call 12; (with_reducible refine (V2.out _ ?_).mono ?_); (focus (exact HTB.out.below (Nat.le_refl _) HW2.out)); rintro e w3 ⟨rfl, hb3⟩; obtain ⟨hc3, hf3⟩ := bcell hb3; have hz3 := hb3.size; (try simp at hz3); (try simp only [heap_drew, World.heap_drewN] at hz3); (try simp only [heap_drew, World.heap_drewN] at hc3); (try simp only [heap_drew, World.heap_drewN] at hf3); (try have hs1 := Nat.lt_of_succ_le hz3); (try have hs2 := Nat.lt_of_succ_lt hs1); (try have y0 : w.heap.size < w3.heap.size := by omega); (try have y1 : w.heap.size + 1 < w3.heap.size := by omega); (try have y2 : w.heap.size + 2 < w3.heap.size := by omega))
                 have HW3 := Lib.hid (below_step HW2.out hb3)
                 clear hc3 hf3 hb3)
              | (go_at_call 26
                 with_reducible refine (B1.out _ ?_ ?_).mono ?_
                 focus (exact HA.out.below HW3.out hba)
                 focus (exact HB.out.below HW3.out hbb)
                 rintro e w4 ⟨rfl, hb4⟩
                 have HW4 := Lib.hid (below_step HW3.out hb4)
                 clear hb4)
              | (go_at_call 26
                 with_reducible refine (B2.out _ ?_ ?_).mono ?_
                 focus (exact HA.out.below HW4.out hba)
                 focus (exact HB.out.below HW4.out hbb)
                 rintro e w5 ⟨rfl, hb5⟩
                 have HW5 := Lib.hid (below_step HW4.out hb5)
                 clear hb5)
              | ((go_at_call 27; (with_reducible refine (SN.out _).mono ?_); rintro e w6 ⟨rfl, hb6⟩; obtain ⟨hc6, hf6⟩ := bcell hb6; have hz6 := hb6.size; (try simp at hz6); (try simp only [heap_drew, World.heap_drewN] at hz6); (try simp only [heap_drew, World.heap_drewN] at hc6); (try simp only [heap_drew, World.heap_drewN] at hf6); (try have hs1 := Nat.lt_of_succ_le hz6); (try have hs2 := Nat.lt_of_succ_lt hs1); (try have y0 : w.heap.size < w6.heap.size := by omega); (try have y1 : w.heap.size + 1 < w6.heap.size := by omega); (try have y2 : w.heap.size + 2 < w6.heap.size := by omega))
                 have HW6 := Lib.hid (below_step HW5.out hb6)
                 clear hc6 hf6 hb6))
            go_ret
            exact ⟨by simp, HW6.out⟩
    · have tv2 := tabB_false oB
      clear hTA hTB oA oB
      go_enter Try.func7, Try.ntmps7
      go_wp2_with (first | (go_at_call 10; (with_reducible refine (SA.out _).mono ?_); rintro e w1 ⟨rfl, hb1⟩; obtain ⟨hc1, hf1⟩ := bcell hb1; have hz1 := hb1.size; (try simp at hz1); (try simp only [heap_drew, World.heap_drewN] at hz1); (try simp only [heap_drew, World.heap_drewN] at hc1); (try simp only [heap_drew, World.heap_drewN] at hf1); (try have hs1 := Nat.lt_of_succ_le hz1); (try have hs2 := Nat.lt_of_succ_lt hs1); (try have y0 : w.heap.size < w1.heap.size := by omega); (try have y1 : w.heap.size + 1 < w1.heap.size := by omega); (try have y2 : w.heap.size + 2 < w1.heap.size := by omega)) | (go_at_call 12; (with_reducible refine (V1.out _ ?_).mono ?_); (focus (exact HTA.out.below (Nat.le_refl _) (by (repeat' (first | assumption | exact Below.refl _ _ | exact Below.size (by assumption) | (refine Below.setCell ?_ ?_ _) | (refine Below.alloc ?_ ?_ _) | (refine Below.drew ?_) | (refine below_drewN ?_ _) | (refine Below.trans ?_ (Below.mono ‹Below _ _ _› ?_)) | omega | (simp; done) | (simp; omega) | (simp at *; omega)))))); rintro e w2 ⟨rfl, hb2⟩; obtain ⟨hc2, hf2⟩ := bcell hb2; have hz2 := hb2.size; (try simp at hz2); (try simp only [heap_drew, World.heap_drewN] at hz2); (try simp only [heap_drew, World.heap_drewN] at hc2); (try simp only [heap_drew, World.heap_drewN] at hf2); (try have hs1 := Nat.lt_of_succ_le hz2); (try have hs2 := Nat.lt_of_succ_lt hs1); (try have y0 : w.heap.size < w2.heap.size := by omega); (try have y1 : w.heap.size + 1 < w2.heap.size := by omega); (try have y2 : w.heap.size + 2 < w2.heap.size := by omega)) | (go_at_call 12; (with_reducible refine (V2.out _ ?_).mono ?_); (focus (exact HTB.out.below (Nat.le_refl _) (by (repeat' (first | assumption | exact Below.refl _ _ | exact Below.size (by assumption) | (refine Below.setCell ?_ ?_ _) | (refine Below.alloc ?_ ?_ _) | (refine Below.drew ?_) | (refine below_drewN ?_ _) | (refine Below.trans ?_ (Below.mono ‹Below _ _ _› ?_)) | omega | (simp; done) | (simp; omega) | (simp at *; omega)))))); rintro e w3 ⟨rfl, hb3⟩; obtain ⟨hc3, hf3⟩ := bcell hb3; have hz3 := hb3.size; (try simp at hz3); (try simp only [heap_drew, World.heap_drewN] at hz3); (try simp only [heap_drew, World.heap_drewN] at hc3); (try simp only [heap_drew, World.heap_drewN] at hf3); (try have hs1 := Nat.lt_of_succ_le hz3); (try have hs2 := Nat.lt_of_succ_lt hs1); (try have y0 : w.heap.size < w3.heap.size := by omega); (try have y1 : w.heap.size + 1 < w3.heap.size := by omega); (try have y2 : w.heap.size + 2 < w3.heap.size := by omega)))
      go_ret
      refine ⟨rfl, ?_⟩
      (repeat' (first | assumption | exact Below.refl _ _ | exact Below.size (by assumption) | (refine Below.setCell ?_ ?_ _) | (refine Below.alloc ?_ ?_ _) | (refine Below.drew ?_) | (refine below_drewN ?_ _) | (refine Below.trans ?_ (Below.mono ‹Below _ _ _› ?_)) | omega | (simp; done) | (simp; omega) | (simp at *; omega)))
  · have tv1 := tabB_false oA
    clear hTA hTB oA
    go_enter Try.func7, Try.ntmps7
    go_wp2_with (first | (go_at_call 10; (with_reducible refine (SA.out _).mono ?_); rintro e w1 ⟨rfl, hb1⟩; obtain ⟨hc1, hf1⟩ := bcell hb1; have hz1 := hb1.size; (try simp at hz1); (try simp only [heap_drew, World.heap_drewN] at hz1); (try simp only [heap_drew, World.heap_drewN] at hc1); (try simp only [heap_drew, World.heap_drewN] at hf1); (try have hs1 := Nat.lt_of_succ_le hz1); (try have hs2 := Nat.lt_of_succ_lt hs1); (try have y0 : w.heap.size < w1.heap.size := by omega); (try have y1 : w.heap.size + 1 < w1.heap.size := by omega); (try have y2 : w.heap.size + 2 < w1.heap.size := by omega)) | (go_at_call 12; (with_reducible refine (V1.out _ ?_).mono ?_); (focus (exact HTA.out.below (Nat.le_refl _) (by (repeat' (first | assumption | exact Below.refl _ _ | exact Below.size (by assumption) | (refine Below.setCell ?_ ?_ _) | (refine Below.alloc ?_ ?_ _) | (refine Below.drew ?_) | (refine below_drewN ?_ _) | (refine Below.trans ?_ (Below.mono ‹Below _ _ _› ?_)) | omega | (simp; done) | (simp; omega) | (simp at *; omega)))))); rintro e w2 ⟨rfl, hb2⟩; obtain ⟨hc2, hf2⟩ := bcell hb2; have hz2 := hb2.size; (try simp at hz2); (try simp only [heap_drew, World.heap_drewN] at hz2); (try simp only [heap_drew, World.heap_drewN] at hc2); (try simp only [heap_drew, World.heap_drewN] at hf2); (try have hs1 := Nat.lt_of_succ_le hz2); (try have hs2 := Nat.lt_of_succ_lt hs1); (try have y0 : w.heap.size < w2.heap.size := by omega); (try have y1 : w.heap.size + 1 < w2.heap.size := by omega); (try have y2 : w.heap.size + 2 < w2.heap.size := by omega)))
    go_ret
    refine ⟨rfl, ?_⟩
    (repeat' (first | assumption | exact Below.refl _ _ | exact Below.size (by assumption) | (refine Below.setCell ?_ ?_ _) | (refine Below.alloc ?_ ?_ _) | (refine Below.drew ?_) | (refine below_drewN ?_ _) | (refine Below.trans ?_ (Below.mono ‹Below _ _ _› ?_)) | omega | (simp; done) | (simp; omega) | (simp at *; omega)))
end Go.Proofs.Ytpeelnjkppdkbaa

/- The reference's Section of a course. -/
import Derived.Test.YtdgfljkhnifemaaGreatDoorRSl
namespace Go.Proofs.YtdgfljkhnifemaaGreatDoor
open Go.RowKit
set_option linter.unusedVariables false
set_option linter.unusedSimpArgs false

set_option maxRecDepth 100000 in
set_option maxHeartbeats 32000000 in
theorem rSec (NA LA CA SA VA : Option Addr) (n nc m lc c cc p pc q qc : Nat) (D : Nds) (K : Lks) (C : Scs) (N : Nat → ByteArray) (Lw Hh : Nat → Int) (hz : NetSz D n K m) (c20 : c ≤ 2000) (hcn : ∀ k, k < c → (C.Nm k).size ≤ 60) (p20 : p ≤ 2000) (q20 : q ≤ 2000) (hdn : ∀ k, k < n → (D.Nm k).size ≤ 60) (hkn : ∀ k, k < m → (K.Nm k).size ≤ 60) (hpp : p ≤ 30 ∨ 300 < p) (w : World) (hD : NdIn w NA n D) (hK : LkIn w LA m K) (hC : ScIn w CA c C) (hN : StrIn w SA p N) (hV : TabIn w VA q Lw Hh) :
    Calls Tryz.prog 11 #[.agg #[.slice NA n nc, .slice LA m lc], .slice CA c cc, .slice SA p pc, .slice VA q qc] w (LinPost w (SecIs D n K m C c N p q Lw Hh)) := by
  have HD := Lib.hid hD
  have HK := Lib.hid hK
  have HC := Lib.hid hC
  have HN := Lib.hid hN
  have HV := Lib.hid hV
  have HZ := Lib.hid hz
  have H0 : Hid (Below w.heap.size w (w.alloc (Obj.cells #[.slice NA n nc, .slice LA m lc] 25))) := (Below.refl _ w).alloc (Nat.le_refl _) _
  have HB0 := Lib.hid (Blk.new w 25 #[.slice NA n nc, .slice LA m lc])
  have sx := fun w hD hK hN hV => rcourse NA LA SA VA n nc m lc p pc q qc D K N Lw Hh hz p20 q20 w hD hK hN hV
  have sc := fun w hC => rcat CA c cc C c20 (fun k hk => by have := hcn k hk; unfold maxLen; omega) w hC
  by_cases g0 : vlP D n K m q Lw Hh
  case neg =>
    rw [crsV_neg g0] at sx
    have SX := Lib.hid sx
    have HR : Hid (SecIs D n K m C c N p q Lw Hh [] 1) := .arg fun h => g0 h.1
    obtain ⟨f, hf⟩ : ∃ f, f = boolOf (catP C c) := ⟨_, rfl⟩
    rw [← hf] at sc
    have SC := Lib.hid sc
    clear sx sc g0 hf hz hD hK hC hN hV c20 hcn p20 q20 hdn hkn hpp
    cases f
    all_goals
      go_enter Tryz.func11, Tryz.ntmps11
      go_wp2_with (first
        | (go_at_call 37
           with_reducible refine (SX.out _ ?_ ?_ ?_ ?_).mono ?_
           focus (exact HD.out.below (Nat.le_refl _) H0.out)
           focus (exact HK.out.below (Nat.le_refl _) H0.out)
           focus (exact HN.out.below (Nat.le_refl _) H0.out)
           focus (exact HV.out.below (Nat.le_refl _) H0.out)
           rintro e w1 ⟨rfl, hb1⟩
           have H1 := Lib.hid (below_step H0.out hb1)
           have HB1 := Lib.hid (HB0.out.call hb1)
           clear hb1)
        | (go_at_call 38
           with_reducible refine (SC.out _ ?_).mono ?_
           focus (exact HC.out.below (Nat.le_refl _) H1.out)
           rintro e w2 ⟨rfl, hb2⟩
           have H2 := Lib.hid (below_step H1.out hb2)
           have HB2 := Lib.hid (HB1.out.call hb2)
           clear hb2))
      go_ret2
      exact lin_nil HR.out H2.out
  rw [crsV_pos g0] at sx
  have SX := Lib.hid sx
  by_cases g1 : catP C c
  case neg =>
    rw [boolOf_false g1] at sc
    have SC := Lib.hid sc
    have HR : Hid (SecIs D n K m C c N p q Lw Hh [] 1) := .arg fun h => g1 h.2
    clear sx sc g0 g1 hz hD hK hC hN hV c20 hcn p20 q20 hdn hkn hpp
    go_enter Tryz.func11, Tryz.ntmps11
    go_wp2_with (first
      | (go_at_call 37
         with_reducible refine (SX.out _ ?_ ?_ ?_ ?_).mono ?_
         focus (exact HD.out.below (Nat.le_refl _) H0.out)
         focus (exact HK.out.below (Nat.le_refl _) H0.out)
         focus (exact HN.out.below (Nat.le_refl _) H0.out)
         focus (exact HV.out.below (Nat.le_refl _) H0.out)
         rintro e w1 ⟨rfl, hb1⟩
         have H1 := Lib.hid (below_step H0.out hb1)
         have HB1 := Lib.hid (HB0.out.call hb1)
         clear hb1)
      | (go_at_call 38
         with_reducible refine (SC.out _ ?_).mono ?_
         focus (exact HC.out.below (Nat.le_refl _) H1.out)
         rintro e w2 ⟨rfl, hb2⟩
         have H2 := Lib.hid (below_step H1.out hb2)
         have HB2 := Lib.hid (HB1.out.call hb2)
         clear hb2))
    go_ret2
    exact lin_nil HR.out H2.out
  rw [boolOf_true g1] at sc
  have SC := Lib.hid sc
  by_cases g2 : crsE D n K m N p q = 0
  case neg =>
    have HR : Hid (SecIs D n K m C c N p q Lw Hh [] (crsE D n K m N p q)) := .crs g0 g1 g2
    have t1 : (crsE D n K m N p q == 0) = false := by simpa using g2
    have t1n : (crsE D n K m N p q != 0) = true := by simpa using g2
    clear sx sc g0 g1 g2 hz hD hK hC hN hV c20 hcn p20 q20 hdn hkn hpp
    go_enter Tryz.func11, Tryz.ntmps11
    go_wp2_with (first
      | (go_at_call 37
         with_reducible refine (SX.out _ ?_ ?_ ?_ ?_).mono ?_
         focus (exact HD.out.below (Nat.le_refl _) H0.out)
         focus (exact HK.out.below (Nat.le_refl _) H0.out)
         focus (exact HN.out.below (Nat.le_refl _) H0.out)
         focus (exact HV.out.below (Nat.le_refl _) H0.out)
         rintro e w1 ⟨rfl, hb1⟩
         have H1 := Lib.hid (below_step H0.out hb1)
         have HB1 := Lib.hid (HB0.out.call hb1)
         clear hb1)
      | (go_at_call 38
         with_reducible refine (SC.out _ ?_).mono ?_
         focus (exact HC.out.below (Nat.le_refl _) H1.out)
         rintro e w2 ⟨rfl, hb2⟩
         have H2 := Lib.hid (below_step H1.out hb2)
         have HB2 := Lib.hid (HB1.out.call hb2)
         clear hb2))
    go_ret2
    exact lin_nil HR.out H2.out
  have HGX := Lib.hid g0
  have HGC := Lib.hid g1
  have HG2 := Lib.hid g2
  obtain ⟨z1, z2, z3, z4, z5⟩ := crsE_zero g2
  have HZ2 : Hid (1 ≤ p ∧ p ≤ 30 ∧ q = n ∧ n ≤ 2000 ∧ m ≤ 2000) := ⟨z2, by omega, z1, hz.n2, hz.m2⟩
  have HF := Lib.hid z4
  have HBT := Lib.hid z5
  have HDN := Lib.hid hdn
  have HKN := Lib.hid hkn
  have SFN := Lib.hid fun s w hD => r_node NA LA n nc m lc D s w hz.n2 hD
  have SBT := Lib.hid fun s t w hK => rbtw NA LA n nc m lc K s t w hz.m2 hK
  have HC20 := Lib.hid c20
  rw [g2] at sx
  have SX := Lib.hid sx
  obtain ⟨SI0, si0, sz0, sz1, sz2⟩ := info_parts1 infoS
  have SI1 := Lib.hid si0
  have SI2 := Lib.hid sz0
  have SI3 := Lib.hid sz1
  have SI4 := Lib.hid sz2
  clear si0 sz0 sz1 sz2
  clear sx sc g0 g1 g2 hz hD hK hC hN hV c20 hcn p20 q20 hdn hkn hpp z1 z2 z3 z4 z5
  go_enter Tryz.func11, Tryz.ntmps11
  go_wp2_with (first
    | (go_at_call 37
       with_reducible refine (SX.out _ ?_ ?_ ?_ ?_).mono ?_
       focus (exact HD.out.below (Nat.le_refl _) H0.out)
       focus (exact HK.out.below (Nat.le_refl _) H0.out)
       focus (exact HN.out.below (Nat.le_refl _) H0.out)
       focus (exact HV.out.below (Nat.le_refl _) H0.out)
       rintro e w1 ⟨rfl, hb1⟩
       have H1 := Lib.hid (below_step H0.out hb1)
       have HB1 := Lib.hid (HB0.out.call hb1)
       clear hb1)
    | (go_at_call 38
       with_reducible refine (SC.out _ ?_).mono ?_
       focus (exact HC.out.below (Nat.le_refl _) H1.out)
       rintro e w2 ⟨rfl, hb2⟩
       have H2 := Lib.hid (below_step H1.out hb2)
       have HB2 := Lib.hid (HB1.out.call hb2)
       clear hb2))
  go_loopw [11, 12] (fun u v wr => ∃ (i M : Nat) (R : List ByteArray), Hid (i ≤ p) ∧ v = .int .i64 i ∧ Hid (M = R.length ∧ M ≤ 2 * i) ∧ Hid ((i < p → R = sgo D n K m C c N Lw Hh i) ∧ (i = p → R = sall D n K m C c N Lw Hh p)) ∧ Hid (∀ j, j < i → j + 1 < p → ¬ noS K m C c N j) ∧ Hid (RMem5 w2 wr u M R)) (fun _ v _ => p - (RowKit.intOf v).toNat)
  case atStart => exact ⟨0, 0, [], Nat.zero_le _, rfl, ⟨rfl, Nat.le_refl _⟩, ⟨fun _ => rfl, fun h => absurd h (by have := HZ2.out.1; omega)⟩, fun j hj => absurd hj (Nat.not_lt_zero _), World.ownsRow_nil _ _ _ _, Below.refl _ _⟩
  case round =>
    obtain ⟨i, M, R, Hi, rfl, HM, HR, HNS, HQ⟩ := hrel
    obtain ⟨A8, cap8, h8⟩ := HQ.out.form
    subst h8
    have HM2 : Hid (M ≤ 1000) := by show M ≤ 1000; have := HM.out.2; have := Hi.out; have := HZ2.out; omega
    have HWr : Hid (Below w.heap.size w wr) := below_step H2.out HQ.out.2
    have HBr := Lib.hid (HB2.out.call HQ.out.2)
    by_cases hlt : i < p
    case neg =>
      have hin : i = p := by have := Hi.out; omega
      have T0 : decide ((i : Int) < (p : Int)) = false := by simp <;> omega
      have T0' : decide (i < p) = false := decide_eq_false hlt
      have HFI : Hid (SecIs D n K m C c N p q Lw Hh R 0) := by
        show SecIs _ _ _ _ _ _ _ _ _ _ _ _ _
        rw [HR.out.2 hin]
        exact .ok HGX.out HGC.out HG2.out (fun j hj => HNS.out j (by omega) hj)
      clear hlt hin
      go_wp2_with fail
      go_ret2
      exact HQ.out.lin H2.out HM.out.1 (by have := HM2.out; omega) HFI.out
    have T0 : decide ((i : Int) < (p : Int)) = true := by simp <;> omega
    have T0' : decide (i < p) = true := decide_eq_true hlt
    obtain ⟨i', hi'⟩ : ∃ z, z = i + 1 := ⟨_, rfl⟩
    have x0 : IntKind.i64.wrap ((i : Int) + 1) = (i' : Int) := by have := HZ2.out; rw [IntKind.wrap_i64]; omega
    have HI' : Hid (i' ≤ p) := by show i' ≤ p; omega
    have HMS : Hid (p - (RowKit.intOf (Value.int .i64 (i' : Int))).toNat < p - (RowKit.intOf (Value.int .i64 (i : Int))).toNat) := by show _ < _; simp [RowKit.intOf]; omega
    have k0 : (0 : Int) ≤ (i : Int) := by omega
    have k1 : (i : Int) < (p : Int) := by omega
    have HLT := Lib.hid hlt
    have HII : Hid (i + 1 = i') := hi'.symm
    have HRS := Lib.hid (HR.out.1 hlt)
    obtain ⟨b, off, hSA, hb, cn⟩ := (HN.out.below (Nat.le_refl _) HWr.out).at hlt
    obtain ⟨hx, hx2, hx3⟩ := ndI_at (HF.out i hlt)
    obtain ⟨x, hxd⟩ : ∃ z, z = ndI D n N i := ⟨_, rfl⟩
    rw [← hxd] at hx hx2 hx3
    have HXD := Lib.hid hxd
    have HXL := Lib.hid hx
    have k2 : (0 : Int) ≤ (x : Int) := by omega
    have k3 : (x : Int) < (n : Int) := by omega
    have k4 : (x : Int) < (q : Int) := by have := HZ2.out.2.2.1; omega
    have k3' : x < n := hx
    have k4' : x < q := by have := HZ2.out.2.2.1; omega
    have S1 := Lib.hid fun w hD => SFN.out (N i) w hD
    rw [hx2] at S1
    have HDr := Lib.hid (HD.out.below (Nat.le_refl _) HWr.out)
    have HS : Hid (∀ w', Below wr.heap.size wr w' → w'.cell? ⟨w.heap.size, 0, none⟩ = some (.slice NA n nc) ∧ w'.cell? ⟨w.heap.size, 1, none⟩ = some (.slice LA m lc) ∧ w'.cell? ⟨b, off + i, none⟩ = some (.string (N i))) := fun w' hb' => ⟨(HBr.out.call hb').cell 0, (HBr.out.call hb').cell 1, (hb'.cell (p := ⟨b, off + i, none⟩) hb).trans cn⟩
    have hs0 := HS.out wr (Below.refl _ _)
    have HSP := Lib.hid (HGX.out.2 x k4')
    have HND := Lib.hid (HGX.out.1.2.2.1 x hx)
    subst hSA
    clear hi' hlt hxd hx hx2 hx3 hb cn
    go_upto_region 10 with fail
    go_region_held3 (fun w' => w'.cell? ⟨w.heap.size, 0, none⟩ = some (.slice NA n nc) ∧ w'.cell? ⟨w.heap.size, 1, none⟩ = some (.slice LA m lc) ∧ w'.cell? ⟨b, off + i, none⟩ = some (.string (N i))) (first
      | exact hs0
      | exact HS.out _ (by (repeat' (first | assumption | exact Below.refl _ _ | exact Below.size (by assumption) | (refine Below.setCell ?_ ?_ _) | (refine Below.alloc ?_ ?_ _) | (refine Below.drew ?_) | (refine below_drewN ?_ _) | (refine Below.trans ?_ (Below.mono ‹Below _ _ _› ?_)) | omega | (simp; done) | (simp; omega) | (simp at *; omega))))) (first
      | (go_at_call 18
         with_reducible refine (S1.out _ ?_).mono ?_
         focus (exact HDr.out.below (Nat.le_refl _) (by (repeat' (first | assumption | exact Below.refl _ _ | exact Below.size (by assumption) | (refine Below.setCell ?_ ?_ _) | (refine Below.alloc ?_ ?_ _) | (refine Below.drew ?_) | (refine below_drewN ?_ _) | (refine Below.trans ?_ (Below.mono ‹Below _ _ _› ?_)) | omega | (simp; done) | (simp; omega) | (simp at *; omega)))))
         rintro e w3 ⟨rfl, hb3⟩
         have hq3 : Below wr.heap.size wr w3 := Below.trans (by (repeat' (first | assumption | exact Below.refl _ _ | exact Below.size (by assumption) | (refine Below.setCell ?_ ?_ _) | (refine Below.alloc ?_ ?_ _) | (refine Below.drew ?_) | (refine below_drewN ?_ _) | (refine Below.trans ?_ (Below.mono ‹Below _ _ _› ?_)) | omega | (simp; done) | (simp; omega) | (simp at *; omega)))) (hb3.mono (by simp <;> omega))
         clear hb3))
    have HW3 := Lib.hid (below_step HWr.out hq3)
    have HQ3 := Lib.hid (HQ.out.call hq3)
    have HB3 := Lib.hid (HBr.out.call hq3)
    clear hs0 hq3 HS S1 HDr HQ HWr HBr
    obtain ⟨bn, on, rfl, hbn, hC, htab⟩ := (HD.out.below (Nat.le_refl _) HW3.out).at HXL.out
    have c0 := hC 0 _ rfl
    have c1 := hC 1 _ rfl
    have c2 := hC 2 _ rfl
    have c3 := hC 3 _ rfl
    have c4 := hC 4 _ rfl
    have c5 := hC 5 _ rfl
    have c6 := hC 6 _ rfl
    have c7 := hC 7 _ rfl
    have c8 := hC 8 _ rfl
    simp only [Nat.add_zero] at c0
    obtain ⟨d0, d1⟩ := blk2 HB3.out
    clear hC htab
    go_upto_region 12 with fail
    have hal : Below w3.heap.size w3 (w3.alloc (Obj.cells #[.string (D.Nm x), .int .i64 (D.Kd x), .int .i64 (D.Ax x), .int .i64 (D.Ay x), .int .i64 (D.Iv x), .int .i64 (D.Gd x), .slice (D.SA x) (D.SN x) (D.SC x), .bool (D.Pt x), .int .i64 (D.Rs x)] 59)) := (Below.refl _ w3).alloc (Nat.le_refl _) _
    have HBG := Lib.hid (Blk.new w3 59 #[.string (D.Nm x), .int .i64 (D.Kd x), .int .i64 (D.Ax x), .int .i64 (D.Ay x), .int .i64 (D.Iv x), .int .i64 (D.Gd x), .slice (D.SA x) (D.SN x) (D.SC x), .bool (D.Pt x), .int .i64 (D.Rs x)])
    have HQ4 := Lib.hid (HQ3.out.call hal)
    have HW4 := Lib.hid (below_step HW3.out hal)
    have HB4 := Lib.hid (HB3.out.call hal)
    clear hal d0 d1 c0 c1 c2 c3 c4 c5 c6 c7 c8 hbn
    generalize w3.alloc (Obj.cells #[.string (D.Nm x), .int .i64 (D.Kd x), .int .i64 (D.Ax x), .int .i64 (D.Ay x), .int .i64 (D.Iv x), .int .i64 (D.Gd x), .slice (D.SA x) (D.SN x) (D.SC x), .bool (D.Pt x), .int .i64 (D.Rs x)] 59) = w4 at HBG HQ4 HW4 HB4 ⊢
    generalize w3.heap.size = G at HBG ⊢
    clear HQ3 HW3 HB3
    obtain ⟨bv, ov, rfl, hbv, cl0, cl1⟩ := HV.out.at k4'
    have HCL : Hid (∀ w', Below w.heap.size w w' → w'.cell? ⟨bv, ov + x * 2, none⟩ = some (.int .i64 (Lw x)) ∧ w'.cell? ⟨bv, ov + x * 2 + 1, none⟩ = some (.int .i64 (Hh x))) := fun w' hb => ⟨(hb.cell (p := ⟨bv, ov + x * 2, none⟩) hbv).trans cl0, (hb.cell (p := ⟨bv, ov + x * 2 + 1, none⟩) hbv).trans cl1⟩
    have a1 := HDN.out x HXL.out
    have a2 := HND.out.1.2.2.2.1
    have a3 := HSP.out
    unfold lvP at a2
    unfold spP at a3
    have L1 := Lib.hid fun w => rnum55 (D.Gd x) (by omega) (by omega) w
    have L2 := Lib.hid fun w => rnum55 (D.Iv x) (by omega) (by omega) w
    have L3 := Lib.hid fun w => rnum55 (Lw x) (by omega) (by omega) w
    have L4 := Lib.hid fun w => rnum55 (Hh x) (by omega) (by omega) w
    have h1 : (⟨(Lib.itoa (D.Gd x)).toArray⟩ : ByteArray).size ≤ 600 := Itm.size (x := .n (D.Gd x)) ⟨by omega, by omega⟩
    have h2 : (⟨(Lib.itoa (D.Iv x)).toArray⟩ : ByteArray).size ≤ 600 := Itm.size (x := .n (D.Iv x)) ⟨by omega, by omega⟩
    have h3 : (⟨(Lib.itoa (Lw x)).toArray⟩ : ByteArray).size ≤ 600 := Itm.size (x := .n (Lw x)) ⟨by omega, by omega⟩
    have h4 : (⟨(Lib.itoa (Hh x)).toArray⟩ : ByteArray).size ≤ 600 := Itm.size (x := .n (Hh x)) ⟨by omega, by omega⟩
    have EQ : Hid ((((((((((D.Nm x) ++ ⟨#[32, 103, 114, 111, 117, 110, 100, 32]⟩) ++ ⟨(Lib.itoa (D.Gd x)).toArray⟩) ++ ⟨#[32, 105, 110, 118, 101, 114, 116, 32]⟩) ++ ⟨(Lib.itoa (D.Iv x)).toArray⟩) ++ ⟨#[32, 108, 101, 118, 101, 108, 32]⟩) ++ ⟨(Lib.itoa (Lw x)).toArray⟩) ++ ⟨#[32, 116, 111, 32]⟩) ++ ⟨(Lib.itoa (Hh x)).toArray⟩) = nlin D Lw Hh x) :=
      cat_more [D.Nm x, wGr, numB (D.Gd x), wIv, numB (D.Iv x), wLv, numB (Lw x)] (by simp) _ wTo _ _ (cat_more [D.Nm x, wGr, numB (D.Gd x), wIv, numB (D.Iv x)] (by simp) _ wLv _ _ (cat_more [D.Nm x, wGr, numB (D.Gd x)] (by simp) _ wIv _ _ (cat_more [D.Nm x] (by simp) _ wGr _ _ (bsx_one (D.Nm x)) rfl) rfl) rfl) rfl
    have HR' : Hid (R ++ [nlin D Lw Hh x] = sgo D n K m C c N Lw Hh i ++ [nlin D Lw Hh (ndI D n N i)]) := by show _ = _; rw [HRS.out, HXD.out]
    generalize (⟨(Lib.itoa (D.Gd x)).toArray⟩ : ByteArray) = x1 at L1 h1 EQ
    generalize (⟨(Lib.itoa (D.Iv x)).toArray⟩ : ByteArray) = x2 at L2 h2 EQ
    generalize (⟨(Lib.itoa (Lw x)).toArray⟩ : ByteArray) = x3 at L3 h3 EQ
    generalize (⟨(Lib.itoa (Hh x)).toArray⟩ : ByteArray) = x4 at L4 h4 EQ
    have vn : (((D.Nm x).size : Nat) : Int) ≤ 8388608 := by omega
    have lm0 : ¬ 9223372036854775807 < (D.Nm x).size + 8 := by omega
    obtain ⟨s0, e0q⟩ : ∃ z : ByteArray, (D.Nm x) ++ ⟨#[32, 103, 114, 111, 117, 110, 100, 32]⟩ = z := ⟨_, rfl⟩
    have sb0 : s0.size ≤ 68 := by rw [← e0q, ByteArray.size_append]; show (D.Nm x).size + 8 ≤ 68; omega
    have vp0 : ((s0.size : Nat) : Int) ≤ 8388608 := by omega
    have lm1 : ¬ 9223372036854775807 < s0.size + x1.size := by omega
    obtain ⟨s1, e1q⟩ : ∃ z : ByteArray, s0 ++ x1 = z := ⟨_, rfl⟩
    have sb1 : s1.size ≤ 668 := by rw [← e1q, ByteArray.size_append]; omega
    have vp1 : ((s1.size : Nat) : Int) ≤ 8388608 := by omega
    have vx1 : ((x1.size : Nat) : Int) ≤ 8388608 := by omega
    have lm2 : ¬ 9223372036854775807 < s1.size + 8 := by omega
    obtain ⟨s2, e2q⟩ : ∃ z : ByteArray, s1 ++ ⟨#[32, 105, 110, 118, 101, 114, 116, 32]⟩ = z := ⟨_, rfl⟩
    have sb2 : s2.size ≤ 676 := by rw [← e2q, ByteArray.size_append]; show s1.size + 8 ≤ 676; omega
    have vp2 : ((s2.size : Nat) : Int) ≤ 8388608 := by omega
    have lm3 : ¬ 9223372036854775807 < s2.size + x2.size := by omega
    obtain ⟨s3, e3q⟩ : ∃ z : ByteArray, s2 ++ x2 = z := ⟨_, rfl⟩
    have sb3 : s3.size ≤ 1276 := by rw [← e3q, ByteArray.size_append]; omega
    have vp3 : ((s3.size : Nat) : Int) ≤ 8388608 := by omega
    have vx3 : ((x2.size : Nat) : Int) ≤ 8388608 := by omega
    have lm4 : ¬ 9223372036854775807 < s3.size + 7 := by omega
    obtain ⟨s4, e4q⟩ : ∃ z : ByteArray, s3 ++ ⟨#[32, 108, 101, 118, 101, 108, 32]⟩ = z := ⟨_, rfl⟩
    have sb4 : s4.size ≤ 1283 := by rw [← e4q, ByteArray.size_append]; show s3.size + 7 ≤ 1283; omega
    have vp4 : ((s4.size : Nat) : Int) ≤ 8388608 := by omega
    have lm5 : ¬ 9223372036854775807 < s4.size + x3.size := by omega
    obtain ⟨s5, e5q⟩ : ∃ z : ByteArray, s4 ++ x3 = z := ⟨_, rfl⟩
    have sb5 : s5.size ≤ 1883 := by rw [← e5q, ByteArray.size_append]; omega
    have vp5 : ((s5.size : Nat) : Int) ≤ 8388608 := by omega
    have vx5 : ((x3.size : Nat) : Int) ≤ 8388608 := by omega
    have lm6 : ¬ 9223372036854775807 < s5.size + 4 := by omega
    obtain ⟨s6, e6q⟩ : ∃ z : ByteArray, s5 ++ ⟨#[32, 116, 111, 32]⟩ = z := ⟨_, rfl⟩
    have sb6 : s6.size ≤ 1887 := by rw [← e6q, ByteArray.size_append]; show s5.size + 4 ≤ 1887; omega
    have vp6 : ((s6.size : Nat) : Int) ≤ 8388608 := by omega
    have lm7 : ¬ 9223372036854775807 < s6.size + x4.size := by omega
    obtain ⟨s7, e7q⟩ : ∃ z : ByteArray, s6 ++ x4 = z := ⟨_, rfl⟩
    have sb7 : s7.size ≤ 2487 := by rw [← e7q, ByteArray.size_append]; omega
    have vp7 : ((s7.size : Nat) : Int) ≤ 8388608 := by omega
    have vx7 : ((x4.size : Nat) : Int) ≤ 8388608 := by omega
    have hl1 : s7 = nlin D Lw Hh x := by rw [← e7q, ← e6q, ← e5q, ← e4q, ← e3q, ← e2q, ← e1q, ← e0q]; exact EQ.out
    rw [← hl1] at HR'
    generalize hl9 : s7 = l1 at *
    have HS : Hid (∀ w', Below w4.heap.size w4 w' → w'.cell? ⟨G, 0, none⟩ = some (.string (D.Nm x)) ∧ w'.cell? ⟨G, 5, none⟩ = some (.int .i64 (D.Gd x)) ∧ w'.cell? ⟨G, 4, none⟩ = some (.int .i64 (D.Iv x)) ∧ w'.cell? ⟨bv, ov + x * 2, none⟩ = some (.int .i64 (Lw x)) ∧ w'.cell? ⟨bv, ov + x * 2 + 1, none⟩ = some (.int .i64 (Hh x))) := fun w' hb => ⟨(HBG.out.call hb).cell 0, (HBG.out.call hb).cell 5, (HBG.out.call hb).cell 4, (HCL.out w' (below_step HW4.out hb)).1, (HCL.out w' (below_step HW4.out hb)).2⟩
    have hs0 := HS.out w4 (Below.refl _ _)
    clear a1 a2 a3 h1 h2 h3 h4 EQ hl1 hl9 hbv cl0 cl1 sb0 sb1 sb2 sb3 sb4 sb5 sb6 sb7
    go_region_held3 (fun w' => w'.cell? ⟨G, 0, none⟩ = some (.string (D.Nm x)) ∧ w'.cell? ⟨G, 5, none⟩ = some (.int .i64 (D.Gd x)) ∧ w'.cell? ⟨G, 4, none⟩ = some (.int .i64 (D.Iv x)) ∧ w'.cell? ⟨bv, ov + x * 2, none⟩ = some (.int .i64 (Lw x)) ∧ w'.cell? ⟨bv, ov + x * 2 + 1, none⟩ = some (.int .i64 (Hh x))) (first
      | exact hs0
      | exact y0
      | exact HS.out _ hq8
      | exact HS.out _ (hq8.alloc hq8.size _)
      | exact HS.out _ hq7
      | exact HS.out _ hq6
      | exact HS.out _ hq5
      | exact HS.out _ (Below.refl _ w4).drew
      | exact HS.out _ hq8.drew
      | exact HS.out _ hq7.drew
      | exact HS.out _ hq6.drew
      | exact HS.out _ hq5.drew
      | exact HS.out _ (hq8.drew.alloc hq8.size _)) (first
      | (go_at_call 39
         with_reducible refine (L1.out _).mono ?_
         rintro e w5 ⟨rfl, hb5⟩
         have hq5 : Below w4.heap.size w4 w5 := by first | exact hb5 | exact (Below.refl _ w4).drew.trans hb5
         clear hb5)
      | (go_at_call 39
         with_reducible refine (L2.out _).mono ?_
         rintro e w6 ⟨rfl, hb6⟩
         have hq6 : Below w4.heap.size w4 w6 := by first | exact hq5.trans (hb6.mono hq5.size) | exact hq5.drew.trans (hb6.mono hq5.size)
         clear hb6)
      | (go_at_call 39
         with_reducible refine (L3.out _).mono ?_
         rintro e w7 ⟨rfl, hb7⟩
         have hq7 : Below w4.heap.size w4 w7 := by first | exact hq6.trans (hb7.mono hq6.size) | exact hq6.drew.trans (hb7.mono hq6.size)
         clear hb7)
      | (go_at_call 39
         with_reducible refine (L4.out _).mono ?_
         rintro e w8 ⟨rfl, hb8⟩
         have hq8 : Below w4.heap.size w4 w8 := by first | exact hq7.trans (hb8.mono hq7.size) | exact hq7.drew.trans (hb8.mono hq7.size)
         have HQ8 := Lib.hid (HQ4.out.call hq8)
         have HBG8 := Lib.hid (HBG.out.call hq8)
         clear hb8)
      | ((refine step_append_lies _ (by rfl) _ _ _ (by rfl) w2.heap.size 9 SI0 (.string ByteArray.empty) 1 16 Tryz.underlying27 SI1.out SI2.out SI3.out SI4.out rfl (by omega) (.slice A8 M cap8) (M) (sc R) (by rfl) (HQ8.out.1.alloc _) ⟨w8.heap.size, 0, none⟩ 1 1 [.string l1] (by rfl) (by rfl) (World.news_of_block (cs := #[.string l1]) (t := 9) (fr := (0, 0)) (heap_alloc_new w8 _)) (by simp [Value.oneCell']) (by omega) (h63_1 (by have := HM2.out; omega)) (hby_1 (by have := HM2.out; omega)) (base_alloc1 HQ8.out.2.size _) (w8.heap.size + 1) (by simp) ?_
          intro gg capg wA hownA hgrowA hatA hltA
          have HM8 := Lib.hid (HQ8.out.app hownA hgrowA)
          have HW8 := Lib.hid (below_step H2.out HM8.out.2)
          have HBG9 := Lib.hid (blk_app HBG8.out HQ8.out (by decide) hgrowA)
          have y0 : wA.cell? ⟨G, 0, none⟩ = some (.string (D.Nm x)) ∧ wA.cell? ⟨G, 5, none⟩ = some (.int .i64 (D.Gd x)) ∧ wA.cell? ⟨G, 4, none⟩ = some (.int .i64 (D.Iv x)) ∧ wA.cell? ⟨bv, ov + x * 2, none⟩ = some (.int .i64 (Lw x)) ∧ wA.cell? ⟨bv, ov + x * 2 + 1, none⟩ = some (.int .i64 (Hh x)) := ⟨HBG9.out.cell 0, HBG9.out.cell 5, HBG9.out.cell 4, (HCL.out wA HW8.out).1, (HCL.out wA HW8.out).2⟩
          clear hownA hgrowA hatA hltA)))
    all_goals
      have HN8 : Hid (M + 1 = (R ++ [l1]).length) := by show _ = _; rw [List.length_append, HM.out.1]; rfl
      clear hs0 y0 HS L1 L2 L3 L4 HBG hq5 hq6 hq7 hq8
      have HM9 : Hid (M + 1 ≤ 2 * i' ∧ M + 1 ≤ 1000) := by show _ ∧ _; have := HM.out.2; have := HII.out; have := HLT.out; have := HZ2.out; omega
      by_cases hk : i' < p
      case neg =>
        have T5 : decide ((i' : Int) < (p : Int)) = false := by simp <;> omega
        have T5' : decide (i' < p) = false := decide_eq_false hk
        have HFR : Hid ((i' < p → R ++ [l1] = sgo D n K m C c N Lw Hh i') ∧ (i' = p → R ++ [l1] = sall D n K m C c N Lw Hh p)) := by
          refine ⟨fun h => absurd h hk, fun h => ?_⟩
          have e : p - 1 = i := by have := HII.out; omega
          unfold sall
          rw [e]
          exact HR'.out
        have HNX : Hid (∀ j, j < i' → j + 1 < p → ¬ noS K m C c N j) := fun j hj hj2 => by
          rcases Nat.lt_or_ge j i with g | g
          · exact HNS.out j g hj2
          · exact absurd hj2 (by have := HII.out; omega)
        clear hk
        go_wp2_with fail
        go_roundw
        case rel => exact ⟨i', M + 1, R ++ [l1], HI', rfl, ⟨HN8.out, HM9.out.1⟩, HFR, HNX, HM8⟩
        case measure => exact HMS.out
      have T5 : decide ((i' : Int) < (p : Int)) = true := by simp <;> omega
      have T5' : decide (i' < p) = true := decide_eq_true hk
      have hkq : i + 1 < p := by have := HII.out; omega
      obtain ⟨hy, hy2, hy3, hy4⟩ := lkI_at (HBT.out i hkq)
      rw [HII.out] at hy2
      obtain ⟨y, hyd⟩ : ∃ z, z = lkI K m N i := ⟨_, rfl⟩
      rw [← hyd] at hy hy2
      have HYD := Lib.hid hyd
      have HKQ := Lib.hid hkq
      have HLP := Lib.hid (HGX.out.1.2.2.2 y hy)
      have k5 : (0 : Int) ≤ (y : Int) := by omega
      have k6 : (y : Int) < (m : Int) := by omega
      have k6' : y < m := hy
      have k7 : (0 : Int) ≤ (i' : Int) := by omega
      have k8 : (i' : Int) < (p : Int) := by omega
      have S2 := Lib.hid fun w hK => SBT.out (N i) (N i') w hK
      rw [hy2] at S2
      obtain ⟨bk, ok, rfl, hbk, hL, hkt⟩ := (HK.out.below (Nat.le_refl _) HW8.out).at hy
      have e0 := hL 0 _ rfl
      have e1 := hL 1 _ rfl
      have e2 := hL 2 _ rfl
      have e3 := hL 3 _ rfl
      have e4 := hL 4 _ rfl
      have e5 := hL 5 _ rfl
      have e6 := hL 6 _ rfl
      have e7 := hL 7 _ rfl
      have e8 := hL 8 _ rfl
      have e9 := hL 9 _ rfl
      have e10 := hL 10 _ rfl
      simp only [Nat.add_zero] at e0
      obtain ⟨b7, o7, hA1, hb7, cn1⟩ := (HN.out.below (Nat.le_refl _) HW8.out).at HLT.out
      obtain ⟨b8, o8, hA2, hb8, cn2⟩ := (HN.out.below (Nat.le_refl _) HW8.out).at hk
      injection hA1 with hA1
      injection hA1 with hA1 hA3 _
      subst hA1 hA3
      injection hA2 with hA2
      injection hA2 with hA2 hA4 _
      subst hA2 hA4
      have HBA := Lib.hid (HB2.out.call HM8.out.2)
      have HS : Hid (∀ w', Below wA.heap.size wA w' → w'.cell? ⟨w.heap.size, 0, none⟩ = some (.slice (some ⟨bn, on, none⟩) n nc) ∧ w'.cell? ⟨w.heap.size, 1, none⟩ = some (.slice (some ⟨bk, ok, none⟩) m lc) ∧ w'.cell? ⟨b, off + i, none⟩ = some (.string (N i)) ∧ w'.cell? ⟨b, off + i', none⟩ = some (.string (N i')) ∧ w'.cell? ⟨bk, ok + y * 11, none⟩ = some (.string (K.Nm y)) ∧ w'.cell? ⟨bk, ok + y * 11 + 1, none⟩ = some (.string (K.Fr y)) ∧ w'.cell? ⟨bk, ok + y * 11 + 2, none⟩ = some (.string (K.To y)) ∧ w'.cell? ⟨bk, ok + y * 11 + 3, none⟩ = some (.int .i64 (K.Kd y)) ∧ w'.cell? ⟨bk, ok + y * 11 + 4, none⟩ = some (.int .i64 (K.Ln y)) ∧ w'.cell? ⟨bk, ok + y * 11 + 5, none⟩ = some (.int .i64 (K.Up y)) ∧ w'.cell? ⟨bk, ok + y * 11 + 6, none⟩ = some (.int .i64 (K.Dn y)) ∧ w'.cell? ⟨bk, ok + y * 11 + 7, none⟩ = some (.string (K.Sc y)) ∧ w'.cell? ⟨bk, ok + y * 11 + 8, none⟩ = some (.int .i64 (K.Wd y)) ∧ w'.cell? ⟨bk, ok + y * 11 + 9, none⟩ = some (.int .i64 (K.Ht y)) ∧ w'.cell? ⟨bk, ok + y * 11 + 10, none⟩ = some (.slice (K.CA y) (K.CN y) (K.CC y))) := fun w' hb' => ⟨(HBA.out.call hb').cell 0, (HBA.out.call hb').cell 1, (hb'.cell (p := ⟨b, off + i, none⟩) hb7).trans cn1, (hb'.cell (p := ⟨b, off + i', none⟩) hb7).trans cn2, (hb'.cell (p := ⟨bk, ok + y * 11, none⟩) hbk).trans e0, (hb'.cell (p := ⟨bk, ok + y * 11 + 1, none⟩) hbk).trans e1, (hb'.cell (p := ⟨bk, ok + y * 11 + 2, none⟩) hbk).trans e2, (hb'.cell (p := ⟨bk, ok + y * 11 + 3, none⟩) hbk).trans e3, (hb'.cell (p := ⟨bk, ok + y * 11 + 4, none⟩) hbk).trans e4, (hb'.cell (p := ⟨bk, ok + y * 11 + 5, none⟩) hbk).trans e5, (hb'.cell (p := ⟨bk, ok + y * 11 + 6, none⟩) hbk).trans e6, (hb'.cell (p := ⟨bk, ok + y * 11 + 7, none⟩) hbk).trans e7, (hb'.cell (p := ⟨bk, ok + y * 11 + 8, none⟩) hbk).trans e8, (hb'.cell (p := ⟨bk, ok + y * 11 + 9, none⟩) hbk).trans e9, (hb'.cell (p := ⟨bk, ok + y * 11 + 10, none⟩) hbk).trans e10⟩
      have hs0 := HS.out wA (Below.refl _ _)
      have HLK : Hid ((K.Kd y = 1 ∨ K.Kd y = 2 ∨ K.Kd y = 3 ∨ K.Kd y = 4) ∧ (K.Kd y = 1 → (-4194304 ≤ K.Up y ∧ K.Up y ≤ 4194304) ∧ (-4194304 ≤ K.Dn y ∧ K.Dn y ≤ 4194304) ∧ (1 ≤ K.Ln y ∧ K.Ln y ≤ 16777216))) := by
        obtain ⟨_, _, _, _, hup, hdn, hkk⟩ := HLP.out.1
        refine ⟨?_, fun h => ⟨hup, hdn, ?_⟩⟩
        · rcases hkk with g | g | g | g
          · exact .inl g.1
          · exact .inr (.inl g.1)
          · exact .inr (.inr (.inl g.1))
          · exact .inr (.inr (.inr g.1))
        · rcases hkk with g | g | g | g
          · exact g.2.1
          · exact absurd (h.symm.trans g.1) (by decide)
          · exact absurd (h.symm.trans g.1) (by decide)
          · exact absurd (h.symm.trans g.1) (by decide)
      have SRL := Lib.hid fun w hC => rlink55 (K.Nm y) (K.Fr y) (K.To y) (K.Kd y) (K.Ln y) (K.Up y) (K.Dn y) (K.Sc y) (K.Wd y) (K.Ht y) (K.CA y) (K.CN y) (K.CC y) CA c cc C HLK.out.1 (HKN.out y hy) HLK.out.2 (fun s hs => ⟨(HGC.out.2 s hs).1.2.1, (HGC.out.2 s hs).1.2.2.1⟩) HC20.out w hC
      have HRL : Hid (∀ x f, RlP (K.Nm y) (K.Kd y) (K.Ln y) (K.Up y) (K.Dn y) (K.Sc y) C c x f → (f = true ∧ x = klin K C c (lkI K m N i) ∧ ¬ noS K m C c N i) ∨ (f = false ∧ noS K m C c N i)) := fun x f h => by
        rcases h with ⟨g, hx, hf⟩ | ⟨g, h1, hx, hf⟩ | ⟨g, s, hs, h1, hx, hf⟩
        · refine .inl ⟨hf, ?_, fun h => g (by rw [HYD.out]; exact h.1)⟩
          rw [← HYD.out]
          unfold klin
          rw [if_neg g]
          exact hx
        · exact .inr ⟨hf, by show _ ∧ _; rw [← HYD.out]; exact ⟨g, h1⟩⟩
        · refine .inl ⟨hf, ?_, fun h => ?_⟩
          · rw [← HYD.out]
            unfold klin
            rw [if_pos g, h1]
            exact hx
          · have h2 := h.2
            rw [← HYD.out, h1] at h2
            omega
      have HKA := Lib.hid (HK.out.below (Nat.le_refl _) HW8.out)
      have HCA := Lib.hid (HC.out.below (Nat.le_refl _) HW8.out)
      clear hk hkq hyd hy hy2 hy3 hy4 hL hkt hbk e0 e1 e2 e3 e4 e5 e6 e7 e8 e9 e10 cn1 cn2 hb7 hb8
      go_upto_region 14 with fail
      go_region_held3 (fun w' => w'.cell? ⟨w.heap.size, 0, none⟩ = some (.slice (some ⟨bn, on, none⟩) n nc) ∧ w'.cell? ⟨w.heap.size, 1, none⟩ = some (.slice (some ⟨bk, ok, none⟩) m lc) ∧ w'.cell? ⟨b, off + i, none⟩ = some (.string (N i)) ∧ w'.cell? ⟨b, off + i', none⟩ = some (.string (N i')) ∧ w'.cell? ⟨bk, ok + y * 11, none⟩ = some (.string (K.Nm y)) ∧ w'.cell? ⟨bk, ok + y * 11 + 1, none⟩ = some (.string (K.Fr y)) ∧ w'.cell? ⟨bk, ok + y * 11 + 2, none⟩ = some (.string (K.To y)) ∧ w'.cell? ⟨bk, ok + y * 11 + 3, none⟩ = some (.int .i64 (K.Kd y)) ∧ w'.cell? ⟨bk, ok + y * 11 + 4, none⟩ = some (.int .i64 (K.Ln y)) ∧ w'.cell? ⟨bk, ok + y * 11 + 5, none⟩ = some (.int .i64 (K.Up y)) ∧ w'.cell? ⟨bk, ok + y * 11 + 6, none⟩ = some (.int .i64 (K.Dn y)) ∧ w'.cell? ⟨bk, ok + y * 11 + 7, none⟩ = some (.string (K.Sc y)) ∧ w'.cell? ⟨bk, ok + y * 11 + 8, none⟩ = some (.int .i64 (K.Wd y)) ∧ w'.cell? ⟨bk, ok + y * 11 + 9, none⟩ = some (.int .i64 (K.Ht y)) ∧ w'.cell? ⟨bk, ok + y * 11 + 10, none⟩ = some (.slice (K.CA y) (K.CN y) (K.CC y))) (first
        | exact hs0
        | exact HS.out _ hq6
        | exact HS.out _ hq5
        | exact HS.out _ (Below.refl _ wA).drew
        | exact HS.out _ hq5.drew
        | exact HS.out _ hq6.drew) (first
        | (go_at_call 41
           with_reducible refine (S2.out _ ?_).mono ?_
           focus (first | exact HKA.out | exact HKA.out.below (Nat.le_refl _) (Below.refl _ wA).drew)
           rintro e w5 ⟨rfl, hb5⟩
           have hq5 : Below wA.heap.size wA w5 := by first | exact hb5 | exact (Below.refl _ wA).drew.trans hb5
           clear hb5)
        | (go_at_call 40
           with_reducible refine (SRL.out _ ?_).mono ?_
           focus (first | exact HCA.out.below (Nat.le_refl _) hq5 | exact HCA.out.below (Nat.le_refl _) hq5.drew)
           rintro e w6 ⟨xs, f, rfl, hrl, hb6⟩
           have hq6 : Below wA.heap.size wA w6 := by first | exact hq5.trans (hb6.mono hq5.size) | exact hq5.drew.trans (hb6.mono hq5.size)
           have HRX := Lib.hid (HRL.out _ _ hrl)
           have HM6 := Lib.hid (HM8.out.call hq6)
           have HW6 := Lib.hid (below_step HW8.out hq6)
           clear hrl hb6))
      all_goals
        clear hs0 HS hq5 hq6 S2 SRL HRL
        rcases HRX.out with ⟨rfl, hxk, hns⟩ | ⟨rfl, hns⟩
        · have HNX : Hid (∀ j, j < i' → j + 1 < p → ¬ noS K m C c N j) := fun j hj hj2 => by
            rcases Nat.lt_or_ge j i with g | g
            · exact HNS.out j g hj2
            · have : j = i := by have := HII.out; omega
              rw [this]; exact hns
          have HFR : Hid ((i' < p → (R ++ [l1]) ++ [xs] = sgo D n K m C c N Lw Hh i') ∧ (i' = p → (R ++ [l1]) ++ [xs] = sall D n K m C c N Lw Hh p)) := by
            refine ⟨fun _ => ?_, fun h => absurd h (by have := HKQ.out; have := HII.out; omega)⟩
            rw [HR'.out, hxk, ← HII.out, List.append_assoc]
            rfl
          have HLEN : Hid (M + 1 + 1 = ((R ++ [l1]) ++ [xs]).length ∧ M + 1 + 1 ≤ 2 * i') := by
            show _ ∧ _
            refine ⟨by rw [List.length_append, ← HN8.out]; rfl, ?_⟩
            have := HM.out.2; have := HII.out
            omega
          clear hxk hns HRX
          go_wp2_with (first
            | (at_builtin; refine wpList_append_own_at _ ?za (.tmp 102) (.tmp 104) 27 ?zb (w2.heap.size) 9 SI0 (.string ByteArray.empty) 1 16 Tryz.underlying27 SI1.out SI2.out SI3.out SI4.out ?zc ?zd (.slice (some ⟨gg, 0, none⟩) (M + 1) capg) (M + 1) (sc (R ++ [l1])) ?ze (HM6.out.1.alloc _) (⟨w6.heap.size, 0, none⟩) (1) (1) ([.string xs]) ?zg (rfl) (World.news_of_block (cs := #[.string xs]) (t := 9) (fr := (0, 0)) (heap_alloc_new _ _)) ((by simp [Value.oneCell'])) (h63_1 (by have := HM9.out.2; omega)) (hby_1 (by have := HM9.out.2; omega)) (Nat.le_trans HM6.out.2.size (by simp)) ?zh
               case za => exact rfl
               case zb => exact rfl
               case zc => exact rfl
               case zd => decide
               case ze => exact rfl
               case zg => exact rfl
               intro v2 w7 hown2 hgrow2 hnil2 hat2
               have HM7 := Lib.hid (HM6.out.app hown2 hgrow2)
               clear hown2 hgrow2 hnil2 hat2))
          go_roundw
          case rel => exact ⟨i', _, _, HI', rfl, HLEN, HFR, HNX, HM7⟩
          case measure => exact HMS.out
        · have HFI : Hid (SecIs D n K m C c N p q Lw Hh [] 12) := .none HGX.out HGC.out HG2.out ⟨i, HKQ.out, hns⟩
          clear hns HRX
          go_wp2_with fail
          go_ret2
          exact lin_nil HFI.out HW6.out
end Go.Proofs.YtdgfljkhnifemaaGreatDoor

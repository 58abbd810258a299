/- Section of package reports. -/
import Derived.Test.YtdgfljkhnifemaaGreatDoorCrs
import Derived.Test.YtdgfljkhnifemaaGreatDoorCtv
import Derived.Test.YtdgfljkhnifemaaGreatDoorValS
import Derived.Test.YtdgfljkhnifemaaGreatDoorMgT
namespace Go.Proofs.YtdgfljkhnifemaaGreatDoor
open Go.RowKit
set_option linter.unusedVariables false
set_option linter.unusedSimpArgs false

set_option maxRecDepth 100000 in
set_option maxHeartbeats 32000000 in
theorem tSec (NA LA CA SA VA : Option Addr) (n nc m lc c cc p pc q qc : Nat) (D : Nds) (K : Lks) (C : Scs) (N : Nat → ByteArray) (Lo Hi : Nat → Int) (hz : NetSz D n K m) (c20 : c ≤ 2000) (hcn : ∀ k, k < c → (C.Nm k).size ≤ 60) (p20 : p ≤ 2000) (hpc : p ≤ pc) (q20 : q ≤ 2000) (hdn : ∀ k, k < n → (D.Nm k).size ≤ 60) (hkn : ∀ k, k < m → (K.Nm k).size ≤ 60) (hpp : p ≤ 30 ∨ 300 < p) (w : World) (hE : Env5 w) (hD : NdIn w NA n D) (hK : LkIn w LA m K) (hC : ScIn w CA c C) (hN : StrIn w SA p N) (hV : TabIn w VA q Lo Hi) :
    Calls Tryz.prog 9 #[.agg #[.slice NA n nc, .slice LA m lc], .slice CA c cc, .slice SA p pc, .slice VA q qc] w (LinPost w (SecIs D n K m C c N p q Lo Hi)) := by
  have HE := Lib.hid hE
  have HD := Lib.hid hD
  have HK := Lib.hid hK
  have HC := Lib.hid hC
  have HN := Lib.hid hN
  have HV := Lib.hid hV
  have HZ := Lib.hid hz
  have H0 : Hid (Below w.heap.size w (w.alloc (Obj.cells #[.slice NA n nc, .slice LA m lc] 25))) := (Below.refl _ w).alloc (Nat.le_refl _) _
  have HB0 := Lib.hid (Blk.new w 25 #[.slice NA n nc, .slice LA m lc])
  have sv := fun w hD hK hV => tvalid55 NA LA VA n nc m lc q qc D K Lo Hi hz q20 w hD hK hV
  have sc := fun w hC => tcat CA c cc C c20 (fun k hk => by have := hcn k hk; unfold maxLen; omega) w hC
  have scr := fun w hD hK hN => tcrs NA LA SA VA n nc m lc p pc q qc D K N hz.n2 hz.m2 p20 hpc w hD hK hN
  by_cases g0 : vlP D n K m q Lo Hi
  case neg =>
    rw [boolOf_false g0] at sv
    have SV := Lib.hid sv
    have HR : Hid (SecIs D n K m C c N p q Lo Hi [] 1) := .arg fun h => g0 h.1
    clear sv sc scr g0 hz hE hD hK hC hN hV c20 hcn p20 hpc q20 hdn hkn hpp
    go_enter Tryz.func9, Tryz.ntmps9
    go_wp2_with (first
      | (go_at_call 28
         with_reducible refine (SV.out _ ?_ ?_ ?_).mono ?_
         focus (exact HD.out.below (Nat.le_refl _) H0.out)
         focus (exact HK.out.below (Nat.le_refl _) H0.out)
         focus (exact HV.out.below (Nat.le_refl _) H0.out)
         rintro e w1 ⟨rfl, hb1⟩
         have H1 := Lib.hid (below_step H0.out hb1)
         have HB1 := Lib.hid (HB0.out.call hb1)
         obtain ⟨d0, d1⟩ := blk2 HB1.out
         clear hb1))
    go_ret2
    exact lin_nil HR.out H1.out
  rw [boolOf_true g0] at sv
  have SV := Lib.hid sv
  by_cases g1 : catP C c
  case neg =>
    rw [boolOf_false g1] at sc
    have SC := Lib.hid sc
    have HR : Hid (SecIs D n K m C c N p q Lo Hi [] 1) := .arg fun h => g1 h.2
    clear sv sc scr g0 g1 hz hE hD hK hC hN hV c20 hcn p20 hpc q20 hdn hkn hpp
    go_enter Tryz.func9, Tryz.ntmps9
    go_wp2_with (first
      | (go_at_call 28
         with_reducible refine (SV.out _ ?_ ?_ ?_).mono ?_
         focus (exact HD.out.below (Nat.le_refl _) H0.out)
         focus (exact HK.out.below (Nat.le_refl _) H0.out)
         focus (exact HV.out.below (Nat.le_refl _) H0.out)
         rintro e w1 ⟨rfl, hb1⟩
         have H1 := Lib.hid (below_step H0.out hb1)
         have HB1 := Lib.hid (HB0.out.call hb1)
         obtain ⟨d0, d1⟩ := blk2 HB1.out
         clear hb1)
      | (go_at_call 29
         with_reducible refine (SC.out _ ?_).mono ?_
         focus (exact HC.out.below (Nat.le_refl _) H1.out)
         rintro e w2 ⟨rfl, hb2⟩
         have H2 := Lib.hid (below_step H1.out hb2)
         have HB2 := Lib.hid (HB1.out.call hb2)
         obtain ⟨d0, d1⟩ := blk2 HB2.out
         clear hb2))
    go_ret2
    exact lin_nil HR.out H2.out
  rw [boolOf_true g1] at sc
  have SC := Lib.hid sc
  have SX : Hid (∀ w, NdIn w NA n D → LkIn w LA m K → StrIn w SA p N → Calls Tryz.prog 30 #[.agg #[.slice NA n nc, .slice LA m lc], .slice SA p pc, .slice VA q qc] w (CrsPost D n K m N p q w)) := scr
  by_cases g2 : crsE D n K m N p q = 0
  case neg =>
    have HR : Hid (SecIs D n K m C c N p q Lo Hi [] (crsE D n K m N p q)) := .crs g0 g1 g2
    have HNE := Lib.hid g2
    have t1 : (crsE D n K m N p q == 0) = false := by simpa using g2
    have t1n : (crsE D n K m N p q != 0) = true := by simpa using g2
    clear sv sc scr g0 g1 g2 hz hE hD hK hC hN hV c20 hcn p20 hpc q20 hdn hkn hpp
    go_enter Tryz.func9, Tryz.ntmps9
    go_wp2_with (first
      | (go_at_call 28
         with_reducible refine (SV.out _ ?_ ?_ ?_).mono ?_
         focus (exact HD.out.below (Nat.le_refl _) H0.out)
         focus (exact HK.out.below (Nat.le_refl _) H0.out)
         focus (exact HV.out.below (Nat.le_refl _) H0.out)
         rintro e w1 ⟨rfl, hb1⟩
         have H1 := Lib.hid (below_step H0.out hb1)
         have HB1 := Lib.hid (HB0.out.call hb1)
         obtain ⟨d0, d1⟩ := blk2 HB1.out
         clear hb1)
      | (go_at_call 29
         with_reducible refine (SC.out _ ?_).mono ?_
         focus (exact HC.out.below (Nat.le_refl _) H1.out)
         rintro e w2 ⟨rfl, hb2⟩
         have H2 := Lib.hid (below_step H1.out hb2)
         have HB2 := Lib.hid (HB1.out.call hb2)
         obtain ⟨d0, d1⟩ := blk2 HB2.out
         clear hb2)
      | (go_at_call 30
         with_reducible refine (SX.out _ ?_ ?_ ?_).mono ?_
         focus (exact HD.out.below (Nat.le_refl _) H2.out)
         focus (exact HK.out.below (Nat.le_refl _) H2.out)
         focus (exact HN.out.below (Nat.le_refl _) H2.out)
         rintro e w3 ⟨hb3, hx3⟩
         have H3 := Lib.hid (below_step H2.out hb3)
         have HB3 := Lib.hid (HB2.out.call hb3)
         obtain ⟨d0, d1⟩ := blk2 HB3.out
         clear hb3
         have he : e = .returned (.tuple #[.pointer none, .int .i64 (crsE D n K m N p q)]) := by
           rcases hx3 with ⟨_, h⟩ | ⟨h, _⟩
           · exact h
           · exact absurd h HNE.out
         clear hx3
         subst he))
    go_ret2
    exact lin_nil HR.out H3.out
  have HGX := Lib.hid g0
  have HGC := Lib.hid g1
  have HG2 := Lib.hid g2
  obtain ⟨z1, z2, z3, z4, z5⟩ := crsE_zero g2
  have HZ2 : Hid (1 ≤ p ∧ p ≤ 30 ∧ q = n ∧ n ≤ 2000 ∧ m ≤ 2000) := ⟨z2, by omega, z1, hz.n2, hz.m2⟩
  have HF := Lib.hid z4
  have HB := Lib.hid z5
  have HDN := Lib.hid hdn
  have HKN := Lib.hid hkn
  have HCN := Lib.hid hcn
  obtain ⟨SI0, si0, sz0, sz1, sz2⟩ := info_parts1 infoS
  have SI1 := Lib.hid si0
  have SI2 := Lib.hid sz0
  have SI3 := Lib.hid sz1
  have SI4 := Lib.hid sz2
  clear si0 sz0 sz1 sz2
  clear sv sc scr g0 g1 g2 hz hE hD hK hC hN hV c20 hcn p20 hpc q20 hdn hkn hpp z1 z2 z3 z4 z5
  go_enter Tryz.func9, Tryz.ntmps9
  go_wp2_with (first
    | (go_at_call 28
       with_reducible refine (SV.out _ ?_ ?_ ?_).mono ?_
       focus (exact HD.out.below (Nat.le_refl _) H0.out)
       focus (exact HK.out.below (Nat.le_refl _) H0.out)
       focus (exact HV.out.below (Nat.le_refl _) H0.out)
       rintro e w1 ⟨rfl, hb1⟩
       have H1 := Lib.hid (below_step H0.out hb1)
       have HB1 := Lib.hid (HB0.out.call hb1)
       obtain ⟨d0, d1⟩ := blk2 HB1.out
       clear hb1)
    | (go_at_call 29
       with_reducible refine (SC.out _ ?_).mono ?_
       focus (exact HC.out.below (Nat.le_refl _) H1.out)
       rintro e w2 ⟨rfl, hb2⟩
       have H2 := Lib.hid (below_step H1.out hb2)
       have HB2 := Lib.hid (HB1.out.call hb2)
       obtain ⟨d0, d1⟩ := blk2 HB2.out
       clear hb2)
    | (go_at_call 30
       with_reducible refine (SX.out _ ?_ ?_ ?_).mono ?_
       focus (exact HD.out.below (Nat.le_refl _) H2.out)
       focus (exact HK.out.below (Nat.le_refl _) H2.out)
       focus (exact HN.out.below (Nat.le_refl _) H2.out)
       rintro e w3 ⟨hb3, hx3⟩
       have H3 := Lib.hid (below_step H2.out hb3)
       have HB3 := Lib.hid (HB2.out.call hb3)
       obtain ⟨d0, d1⟩ := blk2 HB3.out
       clear hb3
       have hx4 : ∃ g A1 c1 A2 c2, e = .returned (.tuple #[.pointer (some ⟨g, 0, none⟩), .int .i64 0]) ∧ Blk w3 g 75 #[.slice A1 p c1, .slice A2 (p - 1) c2] ∧ IntIn w3 A1 p (ndC D n N) ∧ IntIn w3 A2 (p - 1) (lkC K m N) := by
         rcases hx3 with ⟨h, _⟩ | ⟨_, h⟩
         · exact absurd HG2.out h
         · exact h
       clear hx3
       obtain ⟨g, A1, c1, A2, c2, rfl, hc1, hc2, hc3⟩ := hx4
       have HCO := Lib.hid hc1
       have HI1 := Lib.hid hc2
       have HI2 := Lib.hid hc3
       clear hc1 hc2 hc3
       obtain ⟨q0, q1⟩ := blk2 HCO.out))
  have HPL : Hid (((p - 1 : Nat) : Int) = (p : Int) - 1) := by show _ = _; have := HZ2.out.1; omega
  clear d0 d1 q0 q1
  go_loopw [12, 42] (fun u v wr => ∃ (k : Nat) (R : List ByteArray), Hid (k < p) ∧ v = .int .i64 k ∧ Hid (R = sgo D n K m C c N Lo Hi k) ∧ Hid (∀ i, i < k → ¬ noS K m C c N i) ∧ Hid (RMem5 w3 wr u (2 * k) R)) (fun _ v _ => p - (RowKit.intOf v).toNat)
  case atStart => exact ⟨0, [], HZ2.out.1, rfl, rfl, fun i hi => absurd hi (Nat.not_lt_zero _), World.ownsRow_nil _ _ _ _, Below.refl _ _⟩
  case round =>
    obtain ⟨k, R, Hk, rfl, HR, HNS, HQ⟩ := hrel
    obtain ⟨A8, cap8, h8⟩ := HQ.out.form
    subst h8
    obtain ⟨N1, hN1⟩ : ∃ z, z = 2 * k := ⟨_, rfl⟩
    rw [← hN1] at HQ ⊢
    have HN1 : Hid (N1 = R.length) := by show N1 = _; rw [HR.out, sgo_len, hN1]
    have HN2 : Hid (N1 ≤ 2000) := by show N1 ≤ 2000; have := Hk.out; have := HZ2.out; omega
    have HNK := Lib.hid hN1
    have HWr : Hid (Below w.heap.size w wr) := below_step H3.out HQ.out.2
    have hlt := Hk.out
    have T0 : decide ((k : Int) < (p : Int)) = true := by simp <;> omega
    have T0' : decide (k < p) = true := decide_eq_true hlt
    obtain ⟨i', hi'⟩ : ∃ z, z = k + 1 := ⟨_, rfl⟩
    have x0 : IntKind.i64.wrap ((k : Int) + 1) = (i' : Int) := by have := HZ2.out; rw [IntKind.wrap_i64]; omega
    have HMS : Hid (p - (RowKit.intOf (Value.int .i64 (i' : Int))).toNat < p - (RowKit.intOf (Value.int .i64 (k : Int))).toNat) := by show _ < _; simp [RowKit.intOf]; omega
    have kk0 : (0 : Int) ≤ (k : Int) := by omega
    have kk1 : (k : Int) < (p : Int) := by omega
    have HLT := Lib.hid hlt
    obtain ⟨b1, o1, rfl, hb1, ci⟩ := (HI1.out.below (Nat.le_refl _) HQ.out.2).at hlt
    obtain ⟨hx, hx2, hx3⟩ := ndI_at (HF.out k hlt)
    have ci' : wr.cell? ⟨b1, o1 + k, none⟩ = some (.int .i64 ((ndI D n N k : Nat) : Int)) := ci
    obtain ⟨x, hxd⟩ : ∃ z, z = ndI D n N k := ⟨_, rfl⟩
    rw [← hxd] at ci' hx hx2 hx3
    have HXD := Lib.hid hxd
    have HXL := Lib.hid hx
    have k2 : (0 : Int) ≤ (x : Int) := by omega
    have k3 : (x : Int) < (n : Int) := by omega
    have k4 : (x : Int) < (q : Int) := by have := HZ2.out.2.2.1; omega
    have k3' : x < n := hx
    have k4' : x < q := by have := HZ2.out.2.2.1; omega
    obtain ⟨b, off, rfl, hb, hC, htab⟩ := (HD.out.below (Nat.le_refl _) HWr.out).at hx
    have c0 := hC 0 _ rfl
    have c1 := hC 1 _ rfl
    have c2 := hC 2 _ rfl
    have c3 := hC 3 _ rfl
    have c4 := hC 4 _ rfl
    have c5 := hC 5 _ rfl
    have c6 := hC 6 _ rfl
    have c7 := hC 7 _ rfl
    have c8 := hC 8 _ rfl
    simp only [Nat.add_zero] at c0
    obtain ⟨bv, ov, rfl, hbv, cl0, cl1⟩ := HV.out.at k4'
    have HCL : Hid (∀ w', Below w.heap.size w w' → w'.cell? ⟨bv, ov + x * 2, none⟩ = some (.int .i64 (Lo x)) ∧ w'.cell? ⟨bv, ov + x * 2 + 1, none⟩ = some (.int .i64 (Hi x))) := fun w' hb => ⟨(hb.cell (p := ⟨bv, ov + x * 2, none⟩) hbv).trans cl0, (hb.cell (p := ⟨bv, ov + x * 2 + 1, none⟩) hbv).trans cl1⟩
    obtain ⟨d0, d1⟩ := blk2 (HB3.out.call HQ.out.2)
    have HII : Hid (k + 1 = i') := hi'.symm
    have HSP := Lib.hid (HGX.out.2 x k4')
    have HND := Lib.hid (HGX.out.1.2.2.1 x hx)
    clear hi' hC htab hlt ci hxd hx hx2 hx3 cl0 cl1 hbv hN1
    go_upto_region 11 with fail
    have hal : Below wr.heap.size wr (wr.alloc (Obj.cells #[.string (D.Nm x), .int .i64 (D.Kd x), .int .i64 (D.Ax x), .int .i64 (D.Ay x), .int .i64 (D.Iv x), .int .i64 (D.Gd x), .slice (D.SA x) (D.SN x) (D.SC x), .bool (D.Pt x), .int .i64 (D.Rs x)] 59)) := (Below.refl _ wr).alloc (Nat.le_refl _) _
    have HBG := Lib.hid (Blk.new wr 59 #[.string (D.Nm x), .int .i64 (D.Kd x), .int .i64 (D.Ax x), .int .i64 (D.Ay x), .int .i64 (D.Iv x), .int .i64 (D.Gd x), .slice (D.SA x) (D.SN x) (D.SC x), .bool (D.Pt x), .int .i64 (D.Rs x)])
    have HQ4 := Lib.hid (HQ.out.call hal)
    have HW4 := Lib.hid (below_step HWr.out hal)
    clear hal d0 d1 c0 c1 c2 c3 c4 c5 c6 c7 c8 hb
    generalize (wr.alloc (Obj.cells #[.string (D.Nm x), .int .i64 (D.Kd x), .int .i64 (D.Ax x), .int .i64 (D.Ay x), .int .i64 (D.Iv x), .int .i64 (D.Gd x), .slice (D.SA x) (D.SN x) (D.SC x), .bool (D.Pt x), .int .i64 (D.Rs x)] 59)) = w4 at HBG HQ4 HW4 ⊢
    generalize wr.heap.size = G at HBG ⊢
    clear HQ HWr
    have HE4 := Lib.hid (HE.out.below HW4.out)
    have L1 : Hid (∀ g c w, Env5 w → Blk w g 20 #[.iface 9 (.string (D.Nm x)), .iface 9 (.string ⟨#[103, 114, 111, 117, 110, 100]⟩), .iface 3 (.int .i64 (D.Gd x)), .iface 9 (.string ⟨#[105, 110, 118, 101, 114, 116]⟩), .iface 3 (.int .i64 (D.Iv x)), .iface 9 (.string ⟨#[108, 101, 118, 101, 108]⟩), .iface 3 (.int .i64 (Lo x)), .iface 9 (.string ⟨#[116, 111]⟩), .iface 3 (.int .i64 (Hi x))] → Calls Tryz.prog 31 #[.slice (some ⟨g, 0, none⟩) 9 c] w fun e w' => e = .returned (.string (nlin D Lo Hi x)) ∧ Below w.heap.size w w') := fun g c w hE hB => tlineL [.s (D.Nm x), .s wGr, .n (D.Gd x), .s wIv, .n (D.Iv x), .s wLv, .n (Lo x), .s wTo, .n (Hi x)] (by simp) (by
      have a1 := HDN.out x HXL.out
      have a2 := HND.out.1.2.2.2.1
      have a3 := HSP.out
      unfold lvP at a2
      unfold spP at a3
      intro y hy
      simp only [List.mem_cons, List.not_mem_nil, or_false] at hy
      rcases hy with rfl | rfl | rfl | rfl | rfl | rfl | rfl | rfl | rfl
      · show _ ≤ 600; omega
      · show _ ≤ 600; decide
      · show _ ∧ _; omega
      · show _ ≤ 600; decide
      · show _ ∧ _; omega
      · show _ ≤ 600; decide
      · show _ ∧ _; omega
      · show _ ≤ 600; decide
      · show _ ∧ _; omega) g c _ w hE hB
    have hs0 : w4.cell? ⟨G, 0, none⟩ = some (.string (D.Nm x)) ∧ w4.cell? ⟨G, 5, none⟩ = some (.int .i64 (D.Gd x)) ∧ w4.cell? ⟨G, 4, none⟩ = some (.int .i64 (D.Iv x)) ∧ w4.cell? ⟨bv, ov + x * 2, none⟩ = some (.int .i64 (Lo x)) ∧ w4.cell? ⟨bv, ov + x * 2 + 1, none⟩ = some (.int .i64 (Hi x)) := ⟨HBG.out.cell 0, HBG.out.cell 5, HBG.out.cell 4, (HCL.out w4 HW4.out).1, (HCL.out w4 HW4.out).2⟩
    have HS : Hid (∀ w', Below w4.heap.size w4 w' → w'.cell? ⟨G, 0, none⟩ = some (.string (D.Nm x)) ∧ w'.cell? ⟨G, 5, none⟩ = some (.int .i64 (D.Gd x)) ∧ w'.cell? ⟨G, 4, none⟩ = some (.int .i64 (D.Iv x)) ∧ w'.cell? ⟨bv, ov + x * 2, none⟩ = some (.int .i64 (Lo x)) ∧ w'.cell? ⟨bv, ov + x * 2 + 1, none⟩ = some (.int .i64 (Hi x))) := fun w' hb => ⟨(HBG.out.call hb).cell 0, (HBG.out.call hb).cell 5, (HBG.out.call hb).cell 4, (HCL.out w' (below_step HW4.out hb)).1, (HCL.out w' (below_step HW4.out hb)).2⟩
    have HRL : Hid (nlin D Lo Hi x = nlin D Lo Hi (ndI D n N k)) := by show _ = _; rw [HXD.out]
    have HR' : Hid (R ++ [nlin D Lo Hi x] = sgo D n K m C c N Lo Hi k ++ [nlin D Lo Hi (ndI D n N k)]) := by show _ = _; rw [HR.out, HXD.out]
    generalize nlin D Lo Hi x = l1 at L1 HR' HRL
    go_region_held3 (fun w' => w'.cell? ⟨G, 0, none⟩ = some (.string (D.Nm x)) ∧ w'.cell? ⟨G, 5, none⟩ = some (.int .i64 (D.Gd x)) ∧ w'.cell? ⟨G, 4, none⟩ = some (.int .i64 (D.Iv x)) ∧ w'.cell? ⟨bv, ov + x * 2, none⟩ = some (.int .i64 (Lo x)) ∧ w'.cell? ⟨bv, ov + x * 2 + 1, none⟩ = some (.int .i64 (Hi x))) (first
      | exact hs0
      | exact y0
      | exact HS.out _ (by (repeat' (first | assumption | exact Below.refl _ _ | exact Below.size (by assumption) | (refine Below.setCell ?_ ?_ _) | (refine Below.alloc ?_ ?_ _) | (refine Below.drew ?_) | (refine below_drewN ?_ _) | (refine Below.trans ?_ (Below.mono ‹Below _ _ _› ?_)) | omega | (simp; done) | (simp; omega) | (simp at *; omega))))) (first
      | (go_at_call 31
         with_reducible refine (L1.out _ _ _ ?_ ?_).mono ?_
         focus (exact HE4.out.below (by (repeat' (first | assumption | exact Below.refl _ _ | exact Below.size (by assumption) | (refine Below.setCell ?_ ?_ _) | (refine Below.alloc ?_ ?_ _) | (refine Below.drew ?_) | (refine below_drewN ?_ _) | (refine Below.trans ?_ (Below.mono ‹Below _ _ _› ?_)) | omega | (simp; done) | (simp; omega) | (simp at *; omega)))))
         focus ((try with_reducible refine Blk.drew1 ?_); with_reducible exact Blk.new _ _ _)
         rintro e w6 ⟨rfl, hb6⟩
         have hq6 : Below w4.heap.size w4 w6 := Below.trans (by (repeat' (first | assumption | exact Below.refl _ _ | exact Below.size (by assumption) | (refine Below.setCell ?_ ?_ _) | (refine Below.alloc ?_ ?_ _) | (refine Below.drew ?_) | (refine below_drewN ?_ _) | (refine Below.trans ?_ (Below.mono ‹Below _ _ _› ?_)) | omega | (simp; done) | (simp; omega) | (simp at *; omega)))) (hb6.mono (by simp <;> omega))
         have HQ6 := Lib.hid (HQ4.out.call hq6)
         have HBG6 := Lib.hid (HBG.out.call hq6)
         have HW6 := Lib.hid (below_step HW4.out hq6)
         clear hb6)
      | ((refine step_append_lies _ (by rfl) _ _ _ (by rfl) w3.heap.size 9 SI0 (.string ByteArray.empty) 1 16 Tryz.underlying27 SI1.out SI2.out SI3.out SI4.out rfl (by omega) (.slice A8 N1 cap8) (N1) (sc R) (by rfl) (HQ6.out.1.alloc _) ⟨w6.heap.size, 0, none⟩ 1 1 [.string l1] (by rfl) (by rfl) (World.news_of_block (cs := #[.string l1]) (t := 9) (fr := (0, 0)) (heap_alloc_new w6 _)) (by simp [Value.oneCell']) (by omega) (h63_1 HN2.out) (hby_1 HN2.out) (base_alloc1 HQ6.out.2.size _) (w6.heap.size + 1) (by simp) ?_
          intro gg capg wA hownA hgrowA hatA hltA
          have HM8 := Lib.hid (HQ6.out.app hownA hgrowA)
          have HW8 := Lib.hid (below_step H3.out HM8.out.2)
          have HBG8 := Lib.hid (blk_app HBG6.out HQ6.out (by decide) hgrowA)
          have y0 : wA.cell? ⟨G, 0, none⟩ = some (.string (D.Nm x)) ∧ wA.cell? ⟨G, 5, none⟩ = some (.int .i64 (D.Gd x)) ∧ wA.cell? ⟨G, 4, none⟩ = some (.int .i64 (D.Iv x)) ∧ wA.cell? ⟨bv, ov + x * 2, none⟩ = some (.int .i64 (Lo x)) ∧ wA.cell? ⟨bv, ov + x * 2 + 1, none⟩ = some (.int .i64 (Hi x)) := ⟨HBG8.out.cell 0, HBG8.out.cell 5, HBG8.out.cell 4, (HCL.out wA HW8.out).1, (HCL.out wA HW8.out).2⟩
          clear hownA hgrowA hatA hltA)))
    all_goals
      have hkp := HLT.out
      obtain ⟨q0, q1⟩ := blk2 (HCO.out.call HM8.out.2)
      obtain ⟨d0, d1⟩ := blk2 (HB3.out.call HM8.out.2)
      have HN8 : Hid (N1 + 1 = (R ++ [l1]).length) := by show _ = _; rw [List.length_append, HN1.out]; rfl
      have HN9 : Hid (N1 + 1 ≤ 1000) := by show _ ≤ _; rw [HNK.out]; have := HZ2.out; omega
      clear hs0 y0 HS L1 HBG hkp
      by_cases hk : k + 1 = p
      case pos =>
        have T5' : (k == p - 1) = true := by simp; omega
        have T5 : ((k : Int) == ((p - 1 : Nat) : Int)) = true := by simp; omega
        have HFI : Hid (SecIs D n K m C c N p q Lo Hi (R ++ [l1]) 0) := by
          have hkk : p - 1 = k := by omega
          have h9 : R ++ [l1] = sall D n K m C c N Lo Hi p := by unfold sall; rw [hkk]; exact HR'.out
          show SecIs _ _ _ _ _ _ _ _ _ _ _ _ _
          rw [h9]
          exact .ok HGX.out HGC.out HG2.out (fun i hi => HNS.out i (by omega))
        clear hk
        go_wp2_with fail
        go_ret2
        exact HM8.out.lin H3.out HN8.out (by have := HN9.out; omega) HFI.out
      have hkq : k + 1 < p := by have := HLT.out; omega
      have T5' : (k == p - 1) = false := by simp; omega
      have T5 : ((k : Int) == ((p - 1 : Nat) : Int)) = false := by simp; omega
      obtain ⟨hy, hy2, hy3, hy4⟩ := lkI_at (HB.out k hkq)
      obtain ⟨b2, o2, rfl, hb2, cj⟩ := (HI2.out.below (Nat.le_refl _) HM8.out.2).at (k := k) (by omega)
      have cj' : wA.cell? ⟨b2, o2 + k, none⟩ = some (.int .i64 ((lkI K m N k : Nat) : Int)) := cj
      obtain ⟨y, hyd⟩ : ∃ z, z = lkI K m N k := ⟨_, rfl⟩
      rw [← hyd] at cj' hy hy2 hy3 hy4
      have HYD := Lib.hid hyd
      have HYL := Lib.hid hy
      have HKQ := Lib.hid hkq
      have k5 : (0 : Int) ≤ (y : Int) := by omega
      have k6 : (y : Int) < (m : Int) := by omega
      have k6' : y < m := hy
      have k7 : (k : Int) < ((p - 1 : Nat) : Int) := by omega
      have k7' : k < p - 1 := by omega
      obtain ⟨bk, ok, rfl, hbk, hL, hkt⟩ := (HK.out.below (Nat.le_refl _) HW8.out).at hy
      have e0 := hL 0 _ rfl
      have e1 := hL 1 _ rfl
      have e2 := hL 2 _ rfl
      have e3 := hL 3 _ rfl
      have e4 := hL 4 _ rfl
      have e5 := hL 5 _ rfl
      have e6 := hL 6 _ rfl
      have e7 := hL 7 _ rfl
      have e8 := hL 8 _ rfl
      have e9 := hL 9 _ rfl
      have e10 := hL 10 _ rfl
      simp only [Nat.add_zero] at e0
      have HSA : Hid (∀ w', Below wA.heap.size wA w' → w'.cell? ⟨w.heap.size, 1, none⟩ = some (.slice (some ⟨bk, ok, none⟩) m lc) ∧ w'.cell? ⟨g, 1, none⟩ = some (.slice (some ⟨b2, o2, none⟩) (p - 1) c2) ∧ w'.cell? ⟨b2, o2 + k, none⟩ = some (.int .i64 (y : Int)) ∧ w'.cell? ⟨bk, ok + y * 11, none⟩ = some (.string (K.Nm y)) ∧ w'.cell? ⟨bk, ok + y * 11 + 1, none⟩ = some (.string (K.Fr y)) ∧ w'.cell? ⟨bk, ok + y * 11 + 2, none⟩ = some (.string (K.To y)) ∧ w'.cell? ⟨bk, ok + y * 11 + 3, none⟩ = some (.int .i64 (K.Kd y)) ∧ w'.cell? ⟨bk, ok + y * 11 + 4, none⟩ = some (.int .i64 (K.Ln y)) ∧ w'.cell? ⟨bk, ok + y * 11 + 5, none⟩ = some (.int .i64 (K.Up y)) ∧ w'.cell? ⟨bk, ok + y * 11 + 6, none⟩ = some (.int .i64 (K.Dn y)) ∧ w'.cell? ⟨bk, ok + y * 11 + 7, none⟩ = some (.string (K.Sc y)) ∧ w'.cell? ⟨bk, ok + y * 11 + 8, none⟩ = some (.int .i64 (K.Wd y)) ∧ w'.cell? ⟨bk, ok + y * 11 + 9, none⟩ = some (.int .i64 (K.Ht y)) ∧ w'.cell? ⟨bk, ok + y * 11 + 10, none⟩ = some (.slice (K.CA y) (K.CN y) (K.CC y))) := fun w' hb => ⟨(hb.cell (p := ⟨w.heap.size, 1, none⟩) (HB3.out.call HM8.out.2).lt).trans d1, (hb.cell (p := ⟨g, 1, none⟩) (HCO.out.call HM8.out.2).lt).trans q1, (hb.cell (p := ⟨b2, o2 + k, none⟩) hb2).trans cj', (hb.cell (p := ⟨bk, ok + y * 11, none⟩) hbk).trans e0, (hb.cell (p := ⟨bk, ok + y * 11 + 1, none⟩) hbk).trans e1, (hb.cell (p := ⟨bk, ok + y * 11 + 2, none⟩) hbk).trans e2, (hb.cell (p := ⟨bk, ok + y * 11 + 3, none⟩) hbk).trans e3, (hb.cell (p := ⟨bk, ok + y * 11 + 4, none⟩) hbk).trans e4, (hb.cell (p := ⟨bk, ok + y * 11 + 5, none⟩) hbk).trans e5, (hb.cell (p := ⟨bk, ok + y * 11 + 6, none⟩) hbk).trans e6, (hb.cell (p := ⟨bk, ok + y * 11 + 7, none⟩) hbk).trans e7, (hb.cell (p := ⟨bk, ok + y * 11 + 8, none⟩) hbk).trans e8, (hb.cell (p := ⟨bk, ok + y * 11 + 9, none⟩) hbk).trans e9, (hb.cell (p := ⟨bk, ok + y * 11 + 10, none⟩) hbk).trans e10⟩
      have hs1 := HSA.out wA (Below.refl _ _)
      clear hk hkq cj hyd hy hy2 hy3 hy4 hL hkt q0 d0 hb2 hbk
      go_wp2_with fail
      go_region_held3 (fun w' => w'.cell? ⟨w.heap.size, 1, none⟩ = some (.slice (some ⟨bk, ok, none⟩) m lc) ∧ w'.cell? ⟨g, 1, none⟩ = some (.slice (some ⟨b2, o2, none⟩) (p - 1) c2) ∧ w'.cell? ⟨b2, o2 + k, none⟩ = some (.int .i64 (y : Int)) ∧ w'.cell? ⟨bk, ok + y * 11, none⟩ = some (.string (K.Nm y)) ∧ w'.cell? ⟨bk, ok + y * 11 + 1, none⟩ = some (.string (K.Fr y)) ∧ w'.cell? ⟨bk, ok + y * 11 + 2, none⟩ = some (.string (K.To y)) ∧ w'.cell? ⟨bk, ok + y * 11 + 3, none⟩ = some (.int .i64 (K.Kd y)) ∧ w'.cell? ⟨bk, ok + y * 11 + 4, none⟩ = some (.int .i64 (K.Ln y)) ∧ w'.cell? ⟨bk, ok + y * 11 + 5, none⟩ = some (.int .i64 (K.Up y)) ∧ w'.cell? ⟨bk, ok + y * 11 + 6, none⟩ = some (.int .i64 (K.Dn y)) ∧ w'.cell? ⟨bk, ok + y * 11 + 7, none⟩ = some (.string (K.Sc y)) ∧ w'.cell? ⟨bk, ok + y * 11 + 8, none⟩ = some (.int .i64 (K.Wd y)) ∧ w'.cell? ⟨bk, ok + y * 11 + 9, none⟩ = some (.int .i64 (K.Ht y)) ∧ w'.cell? ⟨bk, ok + y * 11 + 10, none⟩ = some (.slice (K.CA y) (K.CN y) (K.CC y))) (first
        | exact hs1
        | exact HSA.out _ (by (repeat' (first | assumption | exact Below.refl _ _ | exact Below.size (by assumption) | (refine Below.setCell ?_ ?_ _) | (refine Below.alloc ?_ ?_ _) | (refine Below.drew ?_) | (refine below_drewN ?_ _) | (refine Below.trans ?_ (Below.mono ‹Below _ _ _› ?_)) | omega | (simp; done) | (simp; omega) | (simp at *; omega))))) (first
        | fail)
      have hal5 : Below wA.heap.size wA (wA.alloc (Obj.cells #[.string (K.Nm y), .string (K.Fr y), .string (K.To y), .int .i64 (K.Kd y), .int .i64 (K.Ln y), .int .i64 (K.Up y), .int .i64 (K.Dn y), .string (K.Sc y), .int .i64 (K.Wd y), .int .i64 (K.Ht y), .slice (K.CA y) (K.CN y) (K.CC y)] 48)).drew := ((Below.refl _ wA).alloc (Nat.le_refl _) _).drew
      have HB5 : Hid (Blk (wA.alloc (Obj.cells #[.string (K.Nm y), .string (K.Fr y), .string (K.To y), .int .i64 (K.Kd y), .int .i64 (K.Ln y), .int .i64 (K.Up y), .int .i64 (K.Dn y), .string (K.Sc y), .int .i64 (K.Wd y), .int .i64 (K.Ht y), .slice (K.CA y) (K.CN y) (K.CC y)] 48)).drew wA.heap.size 48 #[.string (K.Nm y), .string (K.Fr y), .string (K.To y), .int .i64 (K.Kd y), .int .i64 (K.Ln y), .int .i64 (K.Up y), .int .i64 (K.Dn y), .string (K.Sc y), .int .i64 (K.Wd y), .int .i64 (K.Ht y), .slice (K.CA y) (K.CN y) (K.CC y)]) := (Blk.new wA 48 #[.string (K.Nm y), .string (K.Fr y), .string (K.To y), .int .i64 (K.Kd y), .int .i64 (K.Ln y), .int .i64 (K.Up y), .int .i64 (K.Dn y), .string (K.Sc y), .int .i64 (K.Wd y), .int .i64 (K.Ht y), .slice (K.CA y) (K.CN y) (K.CC y)]).drew1
      have HM5 := Lib.hid (HM8.out.call hal5)
      have HW5 := Lib.hid (below_step HW8.out hal5)
      clear hs1 HSA hal5 q1 d1 cj' e0 e1 e2 e3 e4 e5 e6 e7 e8 e9 e10
      generalize (wA.alloc (Obj.cells #[.string (K.Nm y), .string (K.Fr y), .string (K.To y), .int .i64 (K.Kd y), .int .i64 (K.Ln y), .int .i64 (K.Up y), .int .i64 (K.Dn y), .string (K.Sc y), .int .i64 (K.Wd y), .int .i64 (K.Ht y), .slice (K.CA y) (K.CN y) (K.CC y)] 48)).drew = w5 at HB5 HM5 HW5 ⊢
      generalize wA.heap.size = G2 at HB5 ⊢
      have HE5 := Lib.hid (HE.out.below HW5.out)
      have HLP := Lib.hid (HGX.out.1.2.2.2 y HYL.out)
      have HCS : Hid (∀ w', Below w5.heap.size w5 w' → w'.cell? ⟨G2, 0, none⟩ = some (.string (K.Nm y)) ∧ w'.cell? ⟨G2, 1, none⟩ = some (.string (K.Fr y)) ∧ w'.cell? ⟨G2, 2, none⟩ = some (.string (K.To y)) ∧ w'.cell? ⟨G2, 3, none⟩ = some (.int .i64 (K.Kd y)) ∧ w'.cell? ⟨G2, 4, none⟩ = some (.int .i64 (K.Ln y)) ∧ w'.cell? ⟨G2, 5, none⟩ = some (.int .i64 (K.Up y)) ∧ w'.cell? ⟨G2, 6, none⟩ = some (.int .i64 (K.Dn y)) ∧ w'.cell? ⟨G2, 7, none⟩ = some (.string (K.Sc y)) ∧ w'.cell? ⟨G2, 8, none⟩ = some (.int .i64 (K.Wd y)) ∧ w'.cell? ⟨G2, 9, none⟩ = some (.int .i64 (K.Ht y)) ∧ w'.cell? ⟨G2, 10, none⟩ = some (.slice (K.CA y) (K.CN y) (K.CC y))) := fun w' hb => by
        have hq := HB5.out.call hb
        exact ⟨hq.cell 0, hq.cell 1, hq.cell 2, hq.cell 3, hq.cell 4, hq.cell 5, hq.cell 6, hq.cell 7, hq.cell 8, hq.cell 9, hq.cell 10⟩
      have HI'' : Hid (i' < p) := by show i' < p; rw [← HII.out]; exact HKQ.out
      have HNN : Hid (N1 + 1 + 1 = 2 * i') := by show _ = _; rw [HNK.out, ← HII.out]; omega
      have HSG : Hid (∀ l2, l2 = klin K C c (lkI K m N k) → (R ++ [l1]) ++ [l2] = sgo D n K m C c N Lo Hi i') := fun l2 h => by
        rw [HR'.out, h, ← HII.out, List.append_assoc]
        rfl
      have HNX : Hid (¬ noS K m C c N k → ∀ i, i < i' → ¬ noS K m C c N i) := fun h i hi => by
        rcases Nat.lt_or_ge i k with g | g
        · exact HNS.out i g
        · have : i = k := by have := HII.out; omega
          rw [this]; exact h
      have hkn60 := HKN.out y HYL.out
      have HK60 := Lib.hid hkn60
      obtain ⟨u0, u1, u2, u3, u4, u5, u6', u7', u8', u9', u10'⟩ := blk11 HB5.out
      clear hkn60
      by_cases hkd : K.Kd y = 1
      case neg =>
        have t7 : (K.Kd y == 1) = false := by simpa using hkd
        have t7n : (K.Kd y != 1) = true := by simpa using hkd
        have SK := Lib.hid fun w => tkind (K.Nm y) (K.Fr y) (K.To y) (K.Kd y) (K.Ln y) (K.Up y) (K.Dn y) (K.Sc y) (K.Wd y) (K.Ht y) (K.CA y) (K.CN y) (K.CC y) w
        obtain ⟨kw, hkw⟩ : ∃ z, z = kwd (K.Kd y) := ⟨_, rfl⟩
        rw [← hkw] at SK
        have HKW : Hid (kw.size ≤ 60) := by
          show kw.size ≤ 60
          rw [hkw]; unfold kwd
          by_cases a1 : K.Kd y = 2
          · rw [if_pos a1]; decide
          · rw [if_neg a1]
            by_cases a2 : K.Kd y = 3
            · rw [if_pos a2]; decide
            · rw [if_neg a2]; decide
        obtain ⟨l2, hl2⟩ : ∃ z, z = bsx (jn [K.Nm y, kw]) := ⟨_, rfl⟩
        have HL2 : Hid ((R ++ [l1]) ++ [l2] = sgo D n K m C c N Lo Hi i') := HSG.out l2 (by rw [hl2, hkw, ← HYD.out]; unfold klin; rw [if_neg hkd])
        have HN2' := Lib.hid (HNX.out (fun h => hkd (by rw [HYD.out]; exact h.1)))
        have L2 : Hid (∀ g c w, Env5 w → Blk w g 20 #[.iface 9 (.string (K.Nm y)), .iface 9 (.string kw)] → Calls Tryz.prog 31 #[.slice (some ⟨g, 0, none⟩) 2 c] w fun e w' => e = .returned (.string l2) ∧ Below w.heap.size w w') := fun g c w hE hB => by
          rw [hl2]
          exact tlineL [.s (K.Nm y), .s kw] (by simp) (by
            have a1 := HK60.out
            have a2 := HKW.out
            intro z hz
            simp only [List.mem_cons, List.not_mem_nil, or_false] at hz
            rcases hz with rfl | rfl
            · show _ ≤ 600; omega
            · show _ ≤ 600; omega) g c _ w hE hB
        clear hkd hkw hl2
        go_upto_region 15 with fail
        have hs5 := HCS.out w5 (Below.refl _ _)
        clear u0 u1 u2 u3 u4 u5 u6' u7' u8' u9' u10'
        go_region_held3 (fun w' => w'.cell? ⟨G2, 0, none⟩ = some (.string (K.Nm y)) ∧ w'.cell? ⟨G2, 1, none⟩ = some (.string (K.Fr y)) ∧ w'.cell? ⟨G2, 2, none⟩ = some (.string (K.To y)) ∧ w'.cell? ⟨G2, 3, none⟩ = some (.int .i64 (K.Kd y)) ∧ w'.cell? ⟨G2, 4, none⟩ = some (.int .i64 (K.Ln y)) ∧ w'.cell? ⟨G2, 5, none⟩ = some (.int .i64 (K.Up y)) ∧ w'.cell? ⟨G2, 6, none⟩ = some (.int .i64 (K.Dn y)) ∧ w'.cell? ⟨G2, 7, none⟩ = some (.string (K.Sc y)) ∧ w'.cell? ⟨G2, 8, none⟩ = some (.int .i64 (K.Wd y)) ∧ w'.cell? ⟨G2, 9, none⟩ = some (.int .i64 (K.Ht y)) ∧ w'.cell? ⟨G2, 10, none⟩ = some (.slice (K.CA y) (K.CN y) (K.CC y))) (first
          | exact hs5
          | exact yB
          | exact HCS.out _ (by (repeat' (first | assumption | exact Below.refl _ _ | exact Below.size (by assumption) | (refine Below.setCell ?_ ?_ _) | (refine Below.alloc ?_ ?_ _) | (refine Below.drew ?_) | (refine below_drewN ?_ _) | (refine Below.trans ?_ (Below.mono ‹Below _ _ _› ?_)) | omega | (simp; done) | (simp; omega) | (simp at *; omega))))) (first
          | (go_at_call 32
             with_reducible refine (SK.out _).mono ?_
             rintro e w6 ⟨rfl, hb6⟩
             have hq6 : Below w5.heap.size w5 w6 := Below.trans (by (repeat' (first | assumption | exact Below.refl _ _ | exact Below.size (by assumption) | (refine Below.setCell ?_ ?_ _) | (refine Below.alloc ?_ ?_ _) | (refine Below.drew ?_) | (refine below_drewN ?_ _) | (refine Below.trans ?_ (Below.mono ‹Below _ _ _› ?_)) | omega | (simp; done) | (simp; omega) | (simp at *; omega)))) (hb6.mono (by simp <;> omega))
             clear hb6)
          | (go_at_call 31
             with_reducible refine (L2.out _ _ _ ?_ ?_).mono ?_
             focus (exact HE5.out.below (by (repeat' (first | assumption | exact Below.refl _ _ | exact Below.size (by assumption) | (refine Below.setCell ?_ ?_ _) | (refine Below.alloc ?_ ?_ _) | (refine Below.drew ?_) | (refine below_drewN ?_ _) | (refine Below.trans ?_ (Below.mono ‹Below _ _ _› ?_)) | omega | (simp; done) | (simp; omega) | (simp at *; omega)))))
             focus ((try with_reducible refine Blk.drew1 ?_); with_reducible exact Blk.new _ _ _)
             rintro e w7 ⟨rfl, hb7⟩
             have hq7 : Below w5.heap.size w5 w7 := Below.trans (by (repeat' (first | assumption | exact Below.refl _ _ | exact Below.size (by assumption) | (refine Below.setCell ?_ ?_ _) | (refine Below.alloc ?_ ?_ _) | (refine Below.drew ?_) | (refine below_drewN ?_ _) | (refine Below.trans ?_ (Below.mono ‹Below _ _ _› ?_)) | omega | (simp; done) | (simp; omega) | (simp at *; omega)))) (hb7.mono (Nat.le_trans hq6.size (by simp <;> omega)))
             have HQ7 := Lib.hid (HM5.out.call hq7)
             have HBG7 := Lib.hid (HB5.out.call hq7)
             clear hb7)
          | ((refine step_append_lies _ (by rfl) _ _ _ (by rfl) w3.heap.size 9 SI0 (.string ByteArray.empty) 1 16 Tryz.underlying27 SI1.out SI2.out SI3.out SI4.out rfl (by omega) (.slice (some ⟨gg, 0, none⟩) (N1 + 1) capg) (N1 + 1) (sc (R ++ [l1])) (by rfl) (HQ7.out.1.alloc _) ⟨w7.heap.size, 0, none⟩ 1 1 [.string l2] (by rfl) (by rfl) (World.news_of_block (cs := #[.string l2]) (t := 9) (fr := (0, 0)) (heap_alloc_new w7 _)) (by simp [Value.oneCell']) (by omega) (h63_1 (by have := HN9.out; omega)) (hby_1 (by have := HN9.out; omega)) (base_alloc1 HQ7.out.2.size _) (w7.heap.size + 1) (by simp) ?_
              intro ggb capb wB hownB hgrowB hatB hltB
              have HM9 := Lib.hid (HQ7.out.app hownB hgrowB)
              have HBG9 := Lib.hid (blk_app HBG7.out HQ7.out (by decide) hgrowB)
              have yB : wB.cell? ⟨G2, 0, none⟩ = some (.string (K.Nm y)) ∧ wB.cell? ⟨G2, 1, none⟩ = some (.string (K.Fr y)) ∧ wB.cell? ⟨G2, 2, none⟩ = some (.string (K.To y)) ∧ wB.cell? ⟨G2, 3, none⟩ = some (.int .i64 (K.Kd y)) ∧ wB.cell? ⟨G2, 4, none⟩ = some (.int .i64 (K.Ln y)) ∧ wB.cell? ⟨G2, 5, none⟩ = some (.int .i64 (K.Up y)) ∧ wB.cell? ⟨G2, 6, none⟩ = some (.int .i64 (K.Dn y)) ∧ wB.cell? ⟨G2, 7, none⟩ = some (.string (K.Sc y)) ∧ wB.cell? ⟨G2, 8, none⟩ = some (.int .i64 (K.Wd y)) ∧ wB.cell? ⟨G2, 9, none⟩ = some (.int .i64 (K.Ht y)) ∧ wB.cell? ⟨G2, 10, none⟩ = some (.slice (K.CA y) (K.CN y) (K.CC y)) := ⟨HBG9.out.cell 0, HBG9.out.cell 1, HBG9.out.cell 2, HBG9.out.cell 3, HBG9.out.cell 4, HBG9.out.cell 5, HBG9.out.cell 6, HBG9.out.cell 7, HBG9.out.cell 8, HBG9.out.cell 9, HBG9.out.cell 10⟩
              clear hownB hgrowB hatB hltB)))
        all_goals (go_wp2_with fail; go_roundw; (case rel => exact ⟨i', _, HI'', rfl, HL2, HN2', by rw [← HNN.out]; exact HM9.out⟩); (case measure => exact HMS.out))
      have t7 : (K.Kd y == 1) = true := by simpa using hkd
      have t7n : (K.Kd y != 1) = false := by simpa using hkd
      have ss := fun w hC hy hg => find_csec CA c cc C (K.Sc y) G2 w (by have := HGC.out.1; omega) hC hy hg
      by_cases g7 : fnd C.Nm c (K.Sc y) = -1
      case pos =>
        have HR1 : Hid (SecIs D n K m C c N p q Lo Hi [] 12) := .none HGX.out HGC.out HG2.out ⟨k, HKQ.out, by show _ ∧ _; rw [← HYD.out]; exact ⟨hkd, g7⟩⟩
        rw [g7] at ss
        have SS := Lib.hid ss
        clear ss g7 hkd
        go_wp2_with (first
          | (go_at_call 33
             with_reducible refine (SS.out _ ?_ ?_ ?_).mono ?_
             focus (exact HC.out.below (Nat.le_refl _) HW5.out)
             focus (exact u7')
             focus (exact HB5.out.lt)
             rintro e w6 ⟨rfl, hb6⟩
             have HM6 := Lib.hid (HM5.out.call hb6)
             have HW6 := Lib.hid (below_step HW5.out hb6)
             have HB6 := Lib.hid (HB5.out.call hb6)
             clear hb6))
        go_ret2
        exact lin_nil HR1.out HW6.out
      obtain ⟨s, hs, hsv⟩ : ∃ s : Nat, s < c ∧ fnd C.Nm c (K.Sc y) = (s : Int) := by
        rcases fnd_bd C.Nm c (K.Sc y) with h | ⟨s, h1, h2, _⟩
        · exact absurd h g7
        · exact ⟨s, h1, h2⟩
      have HN2' := Lib.hid (HNX.out (fun h => g7 (by rw [HYD.out]; exact h.2)))
      have HBD : Hid ((-4194304 ≤ K.Up y ∧ K.Up y ≤ 4194304) ∧ (-4194304 ≤ K.Dn y ∧ K.Dn y ≤ 4194304) ∧ (1 ≤ K.Ln y ∧ K.Ln y ≤ 16777216) ∧ 1 ≤ C.Ht s ∧ C.Ht s ≤ 32768) := by
        obtain ⟨_, _, _, _, hup, hdn, hkk⟩ := HLP.out.1
        have hh := (HGC.out.2 s hs).1
        refine ⟨hup, hdn, ?_, hh.2.1, hh.2.2.1⟩
        rcases hkk with h | h | h | h
        · exact h.2.1
        · exact absurd (hkd.symm.trans h.1) (by decide)
        · exact absurd (hkd.symm.trans h.1) (by decide)
        · exact absurd (hkd.symm.trans h.1) (by decide)
      obtain ⟨l2, hl2⟩ : ∃ z, z = plin K C y s := ⟨_, rfl⟩
      have HL2 : Hid ((R ++ [l1]) ++ [l2] = sgo D n K m C c N Lo Hi i') := HSG.out l2 (by rw [hl2, ← HYD.out]; unfold klin; rw [if_pos hkd, hsv]; rfl)
      obtain ⟨d, hd⟩ : ∃ z, z = K.Up y - K.Dn y := ⟨_, rfl⟩
      have x7 : IntKind.i64.wrap (K.Up y - K.Dn y) = d := by rw [← hd, IntKind.wrap_i64]; have := HBD.out; omega
      have L2 : Hid (∀ g c w, Env5 w → Blk w g 20 #[.iface 9 (.string (K.Nm y)), .iface 9 (.string ⟨#[108, 101, 110, 103, 116, 104]⟩), .iface 3 (.int .i64 (K.Ln y)), .iface 9 (.string ⟨#[102, 97, 108, 108]⟩), .iface 3 (.int .i64 d), .iface 9 (.string ⟨#[104, 101, 105, 103, 104, 116]⟩), .iface 3 (.int .i64 (C.Ht s))] → Calls Tryz.prog 31 #[.slice (some ⟨g, 0, none⟩) 7 c] w fun e w' => e = .returned (.string l2) ∧ Below w.heap.size w w') := fun g c w hE hB => by
        rw [hl2]
        unfold plin
        rw [← hd]
        exact tlineL [.s (K.Nm y), .s wLen, .n (K.Ln y), .s wFal, .n d, .s wHei, .n (C.Ht s)] (by simp) (by
          have a1 := HK60.out
          have a2 := HBD.out
          intro z hz
          simp only [List.mem_cons, List.not_mem_nil, or_false] at hz
          rcases hz with rfl | rfl | rfl | rfl | rfl | rfl | rfl
          · show _ ≤ 600; omega
          · show _ ≤ 600; decide
          · show _ ∧ _; omega
          · show _ ≤ 600; decide
          · show _ ∧ _; omega
          · show _ ≤ 600; decide
          · show _ ∧ _; omega) g c _ w hE hB
      rw [hsv] at ss
      obtain ⟨bs, os, hCA, hbs, hCc, _⟩ := HC.out.at hs
      have hht := hCc 1 _ rfl
      have HHT : Hid (∀ w', Below w.heap.size w w' → w'.cell? ⟨bs, os + s * 5 + 1, none⟩ = some (.int .i64 (C.Ht s))) := fun w' hb => (hb.cell (p := ⟨bs, os + s * 5 + 1, none⟩) hbs).trans hht
      subst hCA
      have SS := Lib.hid ss
      have k8 : (0 : Int) ≤ (s : Int) := by omega
      have k9 : (s : Int) < (c : Int) := by omega
      have k9' : s < c := hs
      have T8 : decide ((s : Int) < 0) = false := decide_eq_false (by omega)
      clear ss g7 hkd hl2 hd hsv hs hCc hht hbs
      go_upto_region 19 with (first
        | (go_at_call 33
           with_reducible refine (SS.out _ ?_ ?_ ?_).mono ?_
           focus (exact HC.out.below (Nat.le_refl _) HW5.out)
           focus (exact u7')
           focus (exact HB5.out.lt)
           rintro e w6 ⟨rfl, hb6⟩
           have HM6 := Lib.hid (HM5.out.call hb6)
           have HW6 := Lib.hid (below_step HW5.out hb6)
           have HB6 := Lib.hid (HB5.out.call hb6)
           clear hb6))
      have HS6 : Hid (∀ w', Below w6.heap.size w6 w' → w'.cell? ⟨G2, 0, none⟩ = some (.string (K.Nm y)) ∧ w'.cell? ⟨G2, 4, none⟩ = some (.int .i64 (K.Ln y)) ∧ w'.cell? ⟨G2, 5, none⟩ = some (.int .i64 (K.Up y)) ∧ w'.cell? ⟨G2, 6, none⟩ = some (.int .i64 (K.Dn y)) ∧ w'.cell? ⟨bs, os + s * 5 + 1, none⟩ = some (.int .i64 (C.Ht s))) := fun w' hb => by
        have hq := HB6.out.call hb
        exact ⟨hq.cell 0, hq.cell 4, hq.cell 5, hq.cell 6, HHT.out w' (below_step HW6.out hb)⟩
      have hs6 := HS6.out w6 (Below.refl _ _)
      have HE6 := Lib.hid (HE.out.below HW6.out)
      clear u0 u1 u2 u3 u4 u5 u6' u7' u8' u9' u10' HM5 HCS HE5 HW5 HB5
      go_region_held3 (fun w' => w'.cell? ⟨G2, 0, none⟩ = some (.string (K.Nm y)) ∧ w'.cell? ⟨G2, 4, none⟩ = some (.int .i64 (K.Ln y)) ∧ w'.cell? ⟨G2, 5, none⟩ = some (.int .i64 (K.Up y)) ∧ w'.cell? ⟨G2, 6, none⟩ = some (.int .i64 (K.Dn y)) ∧ w'.cell? ⟨bs, os + s * 5 + 1, none⟩ = some (.int .i64 (C.Ht s))) (first
        | exact hs6
        | exact yC
        | exact HS6.out _ (by (repeat' (first | assumption | exact Below.refl _ _ | exact Below.size (by assumption) | (refine Below.setCell ?_ ?_ _) | (refine Below.alloc ?_ ?_ _) | (refine Below.drew ?_) | (refine below_drewN ?_ _) | (refine Below.trans ?_ (Below.mono ‹Below _ _ _› ?_)) | omega | (simp; done) | (simp; omega) | (simp at *; omega))))) (first
        | (go_at_call 31
           with_reducible refine (L2.out _ _ _ ?_ ?_).mono ?_
           focus (exact HE6.out.below (by (repeat' (first | assumption | exact Below.refl _ _ | exact Below.size (by assumption) | (refine Below.setCell ?_ ?_ _) | (refine Below.alloc ?_ ?_ _) | (refine Below.drew ?_) | (refine below_drewN ?_ _) | (refine Below.trans ?_ (Below.mono ‹Below _ _ _› ?_)) | omega | (simp; done) | (simp; omega) | (simp at *; omega)))))
           focus ((try with_reducible refine Blk.drew1 ?_); with_reducible exact Blk.new _ _ _)
           rintro e w7 ⟨rfl, hb7⟩
           have hq7 : Below w6.heap.size w6 w7 := Below.trans (by (repeat' (first | assumption | exact Below.refl _ _ | exact Below.size (by assumption) | (refine Below.setCell ?_ ?_ _) | (refine Below.alloc ?_ ?_ _) | (refine Below.drew ?_) | (refine below_drewN ?_ _) | (refine Below.trans ?_ (Below.mono ‹Below _ _ _› ?_)) | omega | (simp; done) | (simp; omega) | (simp at *; omega)))) (hb7.mono (by simp <;> omega))
           have HQ7 := Lib.hid (HM6.out.call hq7)
           have HBG7 := Lib.hid (HB6.out.call hq7)
           have HW7 := Lib.hid (below_step HW6.out hq7)
           clear hb7)
        | ((refine step_append_lies _ (by rfl) _ _ _ (by rfl) w3.heap.size 9 SI0 (.string ByteArray.empty) 1 16 Tryz.underlying27 SI1.out SI2.out SI3.out SI4.out rfl (by omega) (.slice (some ⟨gg, 0, none⟩) (N1 + 1) capg) (N1 + 1) (sc (R ++ [l1])) (by rfl) (HQ7.out.1.alloc _) ⟨w7.heap.size, 0, none⟩ 1 1 [.string l2] (by rfl) (by rfl) (World.news_of_block (cs := #[.string l2]) (t := 9) (fr := (0, 0)) (heap_alloc_new w7 _)) (by simp [Value.oneCell']) (by omega) (h63_1 (by have := HN9.out; omega)) (hby_1 (by have := HN9.out; omega)) (base_alloc1 HQ7.out.2.size _) (w7.heap.size + 1) (by simp) ?_
            intro ggb capb wB hownB hgrowB hatB hltB
            have HM9 := Lib.hid (HQ7.out.app hownB hgrowB)
            have HBG9 := Lib.hid (blk_app HBG7.out HQ7.out (by decide) hgrowB)
            have yC : wB.cell? ⟨G2, 0, none⟩ = some (.string (K.Nm y)) ∧ wB.cell? ⟨G2, 4, none⟩ = some (.int .i64 (K.Ln y)) ∧ wB.cell? ⟨G2, 5, none⟩ = some (.int .i64 (K.Up y)) ∧ wB.cell? ⟨G2, 6, none⟩ = some (.int .i64 (K.Dn y)) ∧ wB.cell? ⟨bs, os + s * 5 + 1, none⟩ = some (.int .i64 (C.Ht s)) := ⟨HBG9.out.cell 0, HBG9.out.cell 4, HBG9.out.cell 5, HBG9.out.cell 6, HHT.out wB (below_step H3.out HM9.out.2)⟩
            clear hownB hgrowB hatB hltB)))
      all_goals (go_wp2_with fail; go_roundw; (case rel => exact ⟨i', _, HI'', rfl, HL2, HN2', by rw [← HNN.out]; exact HM9.out⟩); (case measure => exact HMS.out))
end Go.Proofs.YtdgfljkhnifemaaGreatDoor

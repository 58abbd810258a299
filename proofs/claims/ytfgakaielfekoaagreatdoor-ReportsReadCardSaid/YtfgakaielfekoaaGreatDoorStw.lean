/- ValidState of the reference of storage. -/
import Derived.Test.YtfgakaielfekoaaGreatDoorStg
import Derived.Test.YtfgakaielfekoaaGreatDoorStp
namespace Go.Proofs.YtfgakaielfekoaaGreatDoor
open Go.RowKit
set_option linter.unusedVariables false
set_option linter.unusedSimpArgs false

theorem tkR {P : Program} {ops : Array Oper} {Q : Exit → Act → World → Prop} {md : Region.Mode} {S : World → Prop} (i : Nat) (d : Option Tmp) {oi : Oper} {v : Value} {fuel : Nat} {listed : Array Bool} {a a' : Act} {w : World}
    (h : wpAnyH P md ops Q S fuel (listed.setIfInBounds i true) a' w) (hi : ops[i]? = some oi := by rfl) (hd : oi.dst = d := by rfl)
    (hs : (Region.noSelect ops && Region.free md ops listed i && (Region.ready md ops listed).contains i) = true := by kernel_rfl)
    (hQ : ∀ c a w, Q (.panic c) (a.put d v) w → Q (.panic c) a w := by exact fun _ _ _ h => h)
    (hy : YieldsIf P ops S oi v a := by exact Or.inl ⟨by rfl, by (intro w hSw; (try dsimp only at hSw); go_simp; (try with_reducible rfl))⟩) (hS : S w := by assumption)
    (ha : a.put d v = a' := by (conv => lhs; (try simp only [Act.put, List.setIfInBounds_toArray, List.set_cons_zero, List.set_cons_succ]))) : wpAnyH P md ops Q S (fuel + 1) listed a w := by
  subst hd ha
  simp only [Bool.and_eq_true] at hs
  exact wpAnyH_take hi hs.1.1 hs.1.2 hs.2 hQ hy hS h
theorem tkRN {P : Program} {ops : Array Oper} {Q : Exit → Act → World → Prop} {md : Region.Mode} {S : World → Prop} (i : Nat) (d : Option Tmp) {oi : Oper} {fuel : Nat} {listed : Array Bool} {a a' : Act} {w : World}
    (h : wpAnyH P md ops Q S fuel (listed.setIfInBounds i true) a' w) (hi : ops[i]? = some oi := by rfl) (hd : oi.dst = d := by rfl)
    (hs : (Region.noSelect ops && Region.free md ops listed i && (Region.ready md ops listed).contains i) = true := by kernel_rfl)
    (hQ : ∀ c a w, Q (.panic c) (a.put d undef) w → Q (.panic c) a w := by exact fun _ _ _ h => h)
    (hy : YieldsIf P ops S oi undef a := by exact Or.inr ⟨by simp [Region.wanted, yielded, undef], rfl⟩) (hS : S w := by assumption)
    (ha : a.put d undef = a' := by (conv => lhs; (try simp only [Act.put, List.setIfInBounds_toArray, List.set_cons_zero, List.set_cons_succ]))) : wpAnyH P md ops Q S (fuel + 1) listed a w := by
  subst hd ha
  simp only [Bool.and_eq_true] at hs
  exact wpAnyH_take hi hs.1.1 hs.1.2 hs.2 hQ hy hS h
set_option maxRecDepth 100000 in
set_option maxHeartbeats 8000000 in
theorem rstate (NA LA : Option Addr) (n nc m lc : Nat) (D : Nds) (K : Lks) (hz : NetSz D n K m) (VA : Option Addr) (vn vc : Nat) (V : Nat → Int) (PA : Option Addr) (pn pc : Nat) (P : Nat → Int) (QA : Option Addr) (qn qc : Nat) (Q : Nat → Int) (OA : Option Addr) (on oc : Nat) (O : Nat → Bool) (hs : vn ≤ 2000 ∧ pn ≤ 2000 ∧ qn ≤ 2000 ∧ on ≤ 2000) (hn : netP D n K m) (w : World) (hD : NdIn w NA n D) (hK : LkIn w LA m K) (hV : IntIn w VA vn V) (hP : IntIn w PA pn P) (hQ : IntIn w QA qn Q) (hO : BoolIn w OA on O) :
    Calls Tryz.prog 25 #[.agg #[.slice NA n nc, .slice LA m lc], .agg #[.slice VA vn vc, .slice PA pn pc, .slice QA qn qc, .slice OA on oc]] w fun e w' => e = .returned (.bool (boolOf (stQ D n K m vn pn qn on V P Q O))) ∧ Below w.heap.size w w' := by
  have HD := Lib.hid hD
  have HK := Lib.hid hK
  have HZ := Lib.hid hz
  have HVi := Lib.hid hV
  have HPi := Lib.hid hP
  have HQi := Lib.hid hQ
  have HOi := Lib.hid hO
  have HS := Lib.hid hs
  obtain ⟨Z, hZ⟩ : ∃ Z, Z = boolOf (stQ D n K m vn pn qn on V P Q O) := ⟨_, rfl⟩
  rw [← hZ]
  have HNP := Lib.hid hn
  clear hn
  by_cases g1 : vn = n
  case neg =>
    obtain rfl : Z = false := by rw [hZ]; exact boolOf_false fun h => g1 h.1
    have u1 : ((vn : Int) != (n : Int)) = true := by simp; omega
    have u1' : (vn != n) = true := by simpa using g1
    have v1 : ((vn : Int) == (n : Int)) = false := by simp; omega
    have v1' : (vn == n) = false := by simpa using g1
    clear g1
    clear hD hK hz hV hP hQ hO hs hZ
    go_enter Tryz.func25, Tryz.ntmps25
    go_upto_region 1 with fail
    have HN0 : Hid (Blk ((w.alloc (Obj.cells #[.slice NA n nc, .slice LA m lc] 25)).alloc (Obj.cells #[.slice VA vn vc, .slice PA pn pc, .slice QA qn qc, .slice OA on oc] 49)) w.heap.size 25 #[.slice NA n nc, .slice LA m lc]) := (blk_two w _ _ _ _).1
    have HT0 : Hid (Blk ((w.alloc (Obj.cells #[.slice NA n nc, .slice LA m lc] 25)).alloc (Obj.cells #[.slice VA vn vc, .slice PA pn pc, .slice QA qn qc, .slice OA on oc] 49)) (w.heap.size + 1) 49 #[.slice VA vn vc, .slice PA pn pc, .slice QA qn qc, .slice OA on oc]) := (blk_two w _ _ _ _).2
    have HW0 : Hid (Below w.heap.size w ((w.alloc (Obj.cells #[.slice NA n nc, .slice LA m lc] 25)).alloc (Obj.cells #[.slice VA vn vc, .slice PA pn pc, .slice QA qn qc, .slice OA on oc] 49))) := ((Below.refl _ w).alloc (Nat.le_refl _) _).alloc (by simp) _
    generalize ((w.alloc (Obj.cells #[.slice NA n nc, .slice LA m lc] 25)).alloc (Obj.cells #[.slice VA vn vc, .slice PA pn pc, .slice QA qn qc, .slice OA on oc] 49)) = w0 at HN0 HT0 HW0 ⊢
    generalize w.heap.size = gw at HN0 HT0 ⊢
    obtain ⟨d0, d1⟩ := blk2 HN0.out
    obtain ⟨s0, s1, s2, s3⟩ := blk4 HT0.out
    go_wp2_with fail
    go_ret
    exact ⟨rfl, HW0.out⟩
  obtain rfl : n = vn := g1.symm
  by_cases g2 : pn = n
  case neg =>
    obtain rfl : Z = false := by rw [hZ]; exact boolOf_false fun h => g2 h.2.1
    have u2 : ((pn : Int) != (n : Int)) = true := by simp; omega
    have u2' : (pn != n) = true := by simpa using g2
    have v2 : ((pn : Int) == (n : Int)) = false := by simp; omega
    have v2' : (pn == n) = false := by simpa using g2
    clear g2
    clear hD hK hz hV hP hQ hO hs hZ
    go_enter Tryz.func25, Tryz.ntmps25
    go_upto_region 1 with fail
    have HN0 : Hid (Blk ((w.alloc (Obj.cells #[.slice NA n nc, .slice LA m lc] 25)).alloc (Obj.cells #[.slice VA n vc, .slice PA pn pc, .slice QA qn qc, .slice OA on oc] 49)) w.heap.size 25 #[.slice NA n nc, .slice LA m lc]) := (blk_two w _ _ _ _).1
    have HT0 : Hid (Blk ((w.alloc (Obj.cells #[.slice NA n nc, .slice LA m lc] 25)).alloc (Obj.cells #[.slice VA n vc, .slice PA pn pc, .slice QA qn qc, .slice OA on oc] 49)) (w.heap.size + 1) 49 #[.slice VA n vc, .slice PA pn pc, .slice QA qn qc, .slice OA on oc]) := (blk_two w _ _ _ _).2
    have HW0 : Hid (Below w.heap.size w ((w.alloc (Obj.cells #[.slice NA n nc, .slice LA m lc] 25)).alloc (Obj.cells #[.slice VA n vc, .slice PA pn pc, .slice QA qn qc, .slice OA on oc] 49))) := ((Below.refl _ w).alloc (Nat.le_refl _) _).alloc (by simp) _
    generalize ((w.alloc (Obj.cells #[.slice NA n nc, .slice LA m lc] 25)).alloc (Obj.cells #[.slice VA n vc, .slice PA pn pc, .slice QA qn qc, .slice OA on oc] 49)) = w0 at HN0 HT0 HW0 ⊢
    generalize w.heap.size = gw at HN0 HT0 ⊢
    obtain ⟨d0, d1⟩ := blk2 HN0.out
    obtain ⟨s0, s1, s2, s3⟩ := blk4 HT0.out
    go_wp2_with fail
    go_ret
    exact ⟨rfl, HW0.out⟩
  obtain rfl : n = pn := g2.symm
  by_cases g3 : qn = m
  case neg =>
    obtain rfl : Z = false := by rw [hZ]; exact boolOf_false fun h => g3 h.2.2.1
    have u3 : ((qn : Int) != (m : Int)) = true := by simp; omega
    have u3' : (qn != m) = true := by simpa using g3
    have v3 : ((qn : Int) == (m : Int)) = false := by simp; omega
    have v3' : (qn == m) = false := by simpa using g3
    clear g3
    clear hD hK hz hV hP hQ hO hs hZ
    go_enter Tryz.func25, Tryz.ntmps25
    go_upto_region 1 with fail
    have HN0 : Hid (Blk ((w.alloc (Obj.cells #[.slice NA n nc, .slice LA m lc] 25)).alloc (Obj.cells #[.slice VA n vc, .slice PA n pc, .slice QA qn qc, .slice OA on oc] 49)) w.heap.size 25 #[.slice NA n nc, .slice LA m lc]) := (blk_two w _ _ _ _).1
    have HT0 : Hid (Blk ((w.alloc (Obj.cells #[.slice NA n nc, .slice LA m lc] 25)).alloc (Obj.cells #[.slice VA n vc, .slice PA n pc, .slice QA qn qc, .slice OA on oc] 49)) (w.heap.size + 1) 49 #[.slice VA n vc, .slice PA n pc, .slice QA qn qc, .slice OA on oc]) := (blk_two w _ _ _ _).2
    have HW0 : Hid (Below w.heap.size w ((w.alloc (Obj.cells #[.slice NA n nc, .slice LA m lc] 25)).alloc (Obj.cells #[.slice VA n vc, .slice PA n pc, .slice QA qn qc, .slice OA on oc] 49))) := ((Below.refl _ w).alloc (Nat.le_refl _) _).alloc (by simp) _
    generalize ((w.alloc (Obj.cells #[.slice NA n nc, .slice LA m lc] 25)).alloc (Obj.cells #[.slice VA n vc, .slice PA n pc, .slice QA qn qc, .slice OA on oc] 49)) = w0 at HN0 HT0 HW0 ⊢
    generalize w.heap.size = gw at HN0 HT0 ⊢
    obtain ⟨d0, d1⟩ := blk2 HN0.out
    obtain ⟨s0, s1, s2, s3⟩ := blk4 HT0.out
    go_wp2_with fail
    go_ret
    exact ⟨rfl, HW0.out⟩
  obtain rfl : m = qn := g3.symm
  by_cases g4 : on = m
  case neg =>
    obtain rfl : Z = false := by rw [hZ]; exact boolOf_false fun h => g4 h.2.2.2.1
    have u4 : ((on : Int) != (m : Int)) = true := by simp; omega
    have u4' : (on != m) = true := by simpa using g4
    have v4 : ((on : Int) == (m : Int)) = false := by simp; omega
    have v4' : (on == m) = false := by simpa using g4
    clear g4
    clear hD hK hz hV hP hQ hO hs hZ
    go_enter Tryz.func25, Tryz.ntmps25
    go_upto_region 1 with fail
    have HN0 : Hid (Blk ((w.alloc (Obj.cells #[.slice NA n nc, .slice LA m lc] 25)).alloc (Obj.cells #[.slice VA n vc, .slice PA n pc, .slice QA m qc, .slice OA on oc] 49)) w.heap.size 25 #[.slice NA n nc, .slice LA m lc]) := (blk_two w _ _ _ _).1
    have HT0 : Hid (Blk ((w.alloc (Obj.cells #[.slice NA n nc, .slice LA m lc] 25)).alloc (Obj.cells #[.slice VA n vc, .slice PA n pc, .slice QA m qc, .slice OA on oc] 49)) (w.heap.size + 1) 49 #[.slice VA n vc, .slice PA n pc, .slice QA m qc, .slice OA on oc]) := (blk_two w _ _ _ _).2
    have HW0 : Hid (Below w.heap.size w ((w.alloc (Obj.cells #[.slice NA n nc, .slice LA m lc] 25)).alloc (Obj.cells #[.slice VA n vc, .slice PA n pc, .slice QA m qc, .slice OA on oc] 49))) := ((Below.refl _ w).alloc (Nat.le_refl _) _).alloc (by simp) _
    generalize ((w.alloc (Obj.cells #[.slice NA n nc, .slice LA m lc] 25)).alloc (Obj.cells #[.slice VA n vc, .slice PA n pc, .slice QA m qc, .slice OA on oc] 49)) = w0 at HN0 HT0 HW0 ⊢
    generalize w.heap.size = gw at HN0 HT0 ⊢
    obtain ⟨d0, d1⟩ := blk2 HN0.out
    obtain ⟨s0, s1, s2, s3⟩ := blk4 HT0.out
    go_wp2_with fail
    go_ret
    exact ⟨rfl, HW0.out⟩
  obtain rfl : m = on := g4.symm
  have HZN : Hid (∀ i, i < n → ¬ stnQ D V P i → Z = false) := fun i hi h => by rw [hZ]; exact boolOf_false fun g => h (g.2.2.2.2.1 i hi)
  have HZL : Hid (∀ i, i < m → ¬ stlQ K Q O i → Z = false) := fun i hi h => by rw [hZ]; exact boolOf_false fun g => h (g.2.2.2.2.2 i hi)
  have HZT : Hid ((∀ i, i < n → stnQ D V P i) → (∀ i, i < m → stlQ K Q O i) → Z = true) := fun h1 h2 => by rw [hZ]; exact boolOf_true ⟨rfl, rfl, rfl, rfl, h1, h2⟩
  clear hD hK hz hV hP hQ hO hs hZ
  go_enter Tryz.func25, Tryz.ntmps25
  go_upto_region 1 with fail
  have HN0 : Hid (Blk ((w.alloc (Obj.cells #[.slice NA n nc, .slice LA m lc] 25)).alloc (Obj.cells #[.slice VA n vc, .slice PA n pc, .slice QA m qc, .slice OA m oc] 49)) w.heap.size 25 #[.slice NA n nc, .slice LA m lc]) := (blk_two w _ _ _ _).1
  have HT0 : Hid (Blk ((w.alloc (Obj.cells #[.slice NA n nc, .slice LA m lc] 25)).alloc (Obj.cells #[.slice VA n vc, .slice PA n pc, .slice QA m qc, .slice OA m oc] 49)) (w.heap.size + 1) 49 #[.slice VA n vc, .slice PA n pc, .slice QA m qc, .slice OA m oc]) := (blk_two w _ _ _ _).2
  have HW0 : Hid (Below w.heap.size w ((w.alloc (Obj.cells #[.slice NA n nc, .slice LA m lc] 25)).alloc (Obj.cells #[.slice VA n vc, .slice PA n pc, .slice QA m qc, .slice OA m oc] 49))) := ((Below.refl _ w).alloc (Nat.le_refl _) _).alloc (by simp) _
  generalize ((w.alloc (Obj.cells #[.slice NA n nc, .slice LA m lc] 25)).alloc (Obj.cells #[.slice VA n vc, .slice PA n pc, .slice QA m qc, .slice OA m oc] 49)) = w0 at HN0 HT0 HW0 ⊢
  generalize w.heap.size = gw at HN0 HT0 ⊢
  obtain ⟨d0, d1⟩ := blk2 HN0.out
  obtain ⟨s0, s1, s2, s3⟩ := blk4 HT0.out
  go_wp2_with fail
  have HNy := HN0
  have HTy := HT0
  go_loopw [5] (fun u wr => ∃ i : Nat, Hid (i ≤ n) ∧ u = .int .i64 i ∧ Hid (∀ j, j < i → stnQ D V P j) ∧ Hid (Below w0.heap.size w0 wr)) (fun u _ => n - (RowKit.intOf u).toNat)
  case atStart => exact ⟨0, Nat.zero_le _, rfl, fun j hj => absurd hj (Nat.not_lt_zero _), Below.refl _ _⟩
  case round =>
    obtain ⟨i, Hi, rfl, HG, HW⟩ := hrel
    have HWW : Hid (Below w.heap.size w wr) := HW0.out.trans (HW.out.mono HW0.out.size)
    have HNr := Lib.hid (HN0.out.call HW.out)
    have HTr := Lib.hid (HT0.out.call HW.out)
    obtain ⟨d0, d1⟩ := blk2 HNr.out
    obtain ⟨s0, s1, s2, s3⟩ := blk4 HTr.out
    by_cases hlt : i < n
    · have T0 : decide ((i : Int) < (n : Int)) = true := by simp <;> omega
      have T0' : decide (i < n) = true := decide_eq_true hlt
      obtain ⟨i', hi'⟩ : ∃ z, z = i + 1 := ⟨_, rfl⟩
      have x0 : IntKind.i64.wrap ((i : Int) + 1) = (i' : Int) := by have := HZ.out.n2; have := HZ.out.m2; rw [IntKind.wrap_i64]; omega
      have HI' : Hid (i' ≤ n) := by show i' ≤ n; omega
      have HMS : Hid (n - (RowKit.intOf (Value.int .i64 (i' : Int))).toNat < n - (RowKit.intOf (Value.int .i64 (i : Int))).toNat) := by show _ < _; simp [RowKit.intOf]; omega
      have k0 : (0 : Int) ≤ (i : Int) := by omega
      have k1 : (i : Int) < (n : Int) := by omega
      have HST : Hid (stnQ D V P i → ∀ j, j < i' → stnQ D V P j) := fun h j hj => by
        rcases Nat.lt_or_ge j i with g | g
        · exact HG.out j g
        · have : j = i := by omega
          rw [this]; exact h
      obtain ⟨b, off, rfl, hb, hC, htab⟩ := (HD.out.below (Nat.le_refl _) HWW.out).at hlt
      obtain ⟨bv, ov, rfl, hbv, cv⟩ := (HVi.out.below (Nat.le_refl _) HWW.out).at hlt
      obtain ⟨bp, op, rfl, hbp, cp⟩ := (HPi.out.below (Nat.le_refl _) HWW.out).at hlt
      have c0 := hC 0 _ rfl
      have c1 := hC 1 _ rfl
      have c2 := hC 2 _ rfl
      have c3 := hC 3 _ rfl
      have c4 := hC 4 _ rfl
      have c5 := hC 5 _ rfl
      have c6 := hC 6 _ rfl
      have c7 := hC 7 _ rfl
      have c8 := hC 8 _ rfl
      simp only [Nat.add_zero] at c0
      have HTB := Lib.hid htab
      have hok := (HNP.out.2.2.1 i hlt).1.shape
      have sc : ∀ w, TabIn w (D.SA i) (D.SN i) (D.SX i) (D.SY i) → Calls Tryz.prog 67 #[.agg #[.string (D.Nm i), .int .i64 (D.Kd i), .int .i64 (D.Ax i), .int .i64 (D.Ay i), .int .i64 (D.Iv i), .int .i64 (D.Gd i), .slice (D.SA i) (D.SN i) (D.SC i), .bool (D.Pt i), .int .i64 (D.Rs i)]] w fun e w' => e = .returned (.int .i64 (capF D i)) ∧ Below w.heap.size w w' := fun w ht => rcapacity (D.Nm i) (D.Kd i) (D.Ax i) (D.Ay i) (D.Iv i) (D.Gd i) (D.SA i) (D.SN i) (D.SC i) (D.SX i) (D.SY i) (D.Pt i) (D.Rs i) hok w ht
      have SC := Lib.hid sc
      have sh := fun w => rvolume29 (P i) w
      have HF : Hid (¬ stnQ D V P i → Z = false) := HZN.out i hlt
      clear hi' hC htab hok sc
      by_cases g0 : V i < 0
      case pos =>
        obtain rfl : Z = false := HF.out fun h => by have := h.1.1; omega
        have t0 : decide (V i < 0) = true := decide_eq_true g0
        have SH := Lib.hid sh
        clear sh g0 hlt
        go_upto_region 6 with fail
        have KS : Hid (∀ w', Below wr.heap.size wr w' → w'.cell? ⟨gw, 0, none⟩ = some (.slice (some ⟨b, off, none⟩) n nc) ∧ w'.cell? ⟨gw + 1, 0, none⟩ = some (.slice (some ⟨bv, ov, none⟩) n vc) ∧ w'.cell? ⟨gw + 1, 1, none⟩ = some (.slice (some ⟨bp, op, none⟩) n pc) ∧ w'.cell? ⟨bv, ov + i, none⟩ = some (.int .i64 (V i)) ∧ w'.cell? ⟨bp, op + i, none⟩ = some (.int .i64 (P i)) ∧ w'.cell? ⟨b, off + i * 9, none⟩ = some (.string (D.Nm i)) ∧ w'.cell? ⟨b, off + i * 9 + 1, none⟩ = some (.int .i64 (D.Kd i)) ∧ w'.cell? ⟨b, off + i * 9 + 2, none⟩ = some (.int .i64 (D.Ax i)) ∧ w'.cell? ⟨b, off + i * 9 + 3, none⟩ = some (.int .i64 (D.Ay i)) ∧ w'.cell? ⟨b, off + i * 9 + 4, none⟩ = some (.int .i64 (D.Iv i)) ∧ w'.cell? ⟨b, off + i * 9 + 5, none⟩ = some (.int .i64 (D.Gd i)) ∧ w'.cell? ⟨b, off + i * 9 + 6, none⟩ = some (.slice (D.SA i) (D.SN i) (D.SC i)) ∧ w'.cell? ⟨b, off + i * 9 + 7, none⟩ = some (.bool (D.Pt i)) ∧ w'.cell? ⟨b, off + i * 9 + 8, none⟩ = some (.int .i64 (D.Rs i))) := fun w' h => ⟨(HNr.out.call h).cell 0, (HTr.out.call h).cell 0, (HTr.out.call h).cell 1, (h.cell (p := ⟨bv, ov + i, none⟩) hbv).trans cv, (h.cell (p := ⟨bp, op + i, none⟩) hbp).trans cp, (h.cell (p := ⟨b, _, none⟩) hb).trans c0, (h.cell (p := ⟨b, _, none⟩) hb).trans c1, (h.cell (p := ⟨b, _, none⟩) hb).trans c2, (h.cell (p := ⟨b, _, none⟩) hb).trans c3, (h.cell (p := ⟨b, _, none⟩) hb).trans c4, (h.cell (p := ⟨b, _, none⟩) hb).trans c5, (h.cell (p := ⟨b, _, none⟩) hb).trans c6, (h.cell (p := ⟨b, _, none⟩) hb).trans c7, (h.cell (p := ⟨b, _, none⟩) hb).trans c8⟩
        clear hbv hbp
        refine wp_region_held_drew (S := (fun w' => w'.cell? ⟨gw, 0, none⟩ = some (.slice (some ⟨b, off, none⟩) n nc) ∧ w'.cell? ⟨gw + 1, 0, none⟩ = some (.slice (some ⟨bv, ov, none⟩) n vc) ∧ w'.cell? ⟨gw + 1, 1, none⟩ = some (.slice (some ⟨bp, op, none⟩) n pc) ∧ w'.cell? ⟨bv, ov + i, none⟩ = some (.int .i64 (V i)) ∧ w'.cell? ⟨bp, op + i, none⟩ = some (.int .i64 (P i)) ∧ w'.cell? ⟨b, off + i * 9, none⟩ = some (.string (D.Nm i)) ∧ w'.cell? ⟨b, off + i * 9 + 1, none⟩ = some (.int .i64 (D.Kd i)) ∧ w'.cell? ⟨b, off + i * 9 + 2, none⟩ = some (.int .i64 (D.Ax i)) ∧ w'.cell? ⟨b, off + i * 9 + 3, none⟩ = some (.int .i64 (D.Ay i)) ∧ w'.cell? ⟨b, off + i * 9 + 4, none⟩ = some (.int .i64 (D.Iv i)) ∧ w'.cell? ⟨b, off + i * 9 + 5, none⟩ = some (.int .i64 (D.Gd i)) ∧ w'.cell? ⟨b, off + i * 9 + 6, none⟩ = some (.slice (D.SA i) (D.SN i) (D.SC i)) ∧ w'.cell? ⟨b, off + i * 9 + 7, none⟩ = some (.bool (D.Pt i)) ∧ w'.cell? ⟨b, off + i * 9 + 8, none⟩ = some (.int .i64 (D.Rs i)))) (by kernel_rfl) ?_ (fun hHeld => ?_)
        · exact KS.out _ ((Below.refl _ wr).drew)
        refine tkR 0 (some 48) ?_
        refine tkR 1 (some 49) ?_
        refine tkR 2 (some 50) ?_
        refine tkR 3 (some 51) ?_
        refine tkR 4 (some 52) ?_
        refine tkR 5 (some 53) ?_
        refine tkR 6 (some 54) ?_
        refine tkRN 7 (some 55) ?_
        refine tkRN 8 (some 56) ?_
        refine tkRN 9 (some 57) ?_
        refine tkRN 10 (some 58) ?_
        refine tkRN 11 (some 59) ?_
        refine tkRN 12 (some 60) ?_
        refine tkRN 13 (some 61) ?_
        refine tkRN 14 (some 62) ?_
        refine tkRN 15 (some 63) ?_
        refine tkRN 16 (some 64) ?_
        refine tkRN 17 (some 65) ?_
        refine tkRN 18 (some 66) ?_
        refine tkR 19 (some 67) ?_
        refine tkR 20 (some 68) ?_
        refine tkRN 21 (some 69) ?_
        refine tkRN 22 (some 70) ?_
        refine tkRN 23 (some 71) ?_
        refine tkRN 24 (some 72) ?_
        refine tkRN 25 (some 73) ?_
        refine tkRN 26 (some 74) ?_
        refine tkRN 27 (some 75) ?_
        refine tkR 28 (some 76) ?_
        refine tkR 29 (some 77) ?_
        refine tkRN 30 (some 78) ?_
        refine tkRN 31 (some 79) ?_
        refine tkRN 32 (some 80) ?_
        refine tkRN 33 (some 81) ?_
        refine tkRN 34 (some 82) ?_
        refine tkRN 35 (some 83) ?_
        refine tkRN 36 (some 84) ?_
        refine tkRN 37 (some 85) ?_
        refine tkRN 38 (some 86) ?_
        refine tkRN 39 (some 87) ?_
        refine tkRN 40 (some 88) ?_
        refine tkRN 41 (some 89) ?_
        refine tkRN 42 (some 90) ?_
        refine tkRN 43 (some 91) ?_
        refine tkRN 44 (some 92) ?_
        refine tkR 45 (some 93) ?_
        refine wpAnyH_done (by kernel_rfl) ?_ _
        go_wp2_with fail
        go_ret
        exact ⟨rfl, HWW.out.drew⟩
      have t0 : decide (V i < 0) = false := decide_eq_false g0
      by_cases g1 : capF D i < V i
      case pos =>
        obtain rfl : Z = false := HF.out fun h => by have := h.1.2; omega
        have t1 : decide (capF D i < V i) = true := decide_eq_true g1
        have SH := Lib.hid sh
        clear sh g0 g1 hlt
        go_upto_region 6 with fail
        have KS : Hid (∀ w', Below wr.heap.size wr w' → w'.cell? ⟨gw, 0, none⟩ = some (.slice (some ⟨b, off, none⟩) n nc) ∧ w'.cell? ⟨gw + 1, 0, none⟩ = some (.slice (some ⟨bv, ov, none⟩) n vc) ∧ w'.cell? ⟨gw + 1, 1, none⟩ = some (.slice (some ⟨bp, op, none⟩) n pc) ∧ w'.cell? ⟨bv, ov + i, none⟩ = some (.int .i64 (V i)) ∧ w'.cell? ⟨bp, op + i, none⟩ = some (.int .i64 (P i)) ∧ w'.cell? ⟨b, off + i * 9, none⟩ = some (.string (D.Nm i)) ∧ w'.cell? ⟨b, off + i * 9 + 1, none⟩ = some (.int .i64 (D.Kd i)) ∧ w'.cell? ⟨b, off + i * 9 + 2, none⟩ = some (.int .i64 (D.Ax i)) ∧ w'.cell? ⟨b, off + i * 9 + 3, none⟩ = some (.int .i64 (D.Ay i)) ∧ w'.cell? ⟨b, off + i * 9 + 4, none⟩ = some (.int .i64 (D.Iv i)) ∧ w'.cell? ⟨b, off + i * 9 + 5, none⟩ = some (.int .i64 (D.Gd i)) ∧ w'.cell? ⟨b, off + i * 9 + 6, none⟩ = some (.slice (D.SA i) (D.SN i) (D.SC i)) ∧ w'.cell? ⟨b, off + i * 9 + 7, none⟩ = some (.bool (D.Pt i)) ∧ w'.cell? ⟨b, off + i * 9 + 8, none⟩ = some (.int .i64 (D.Rs i))) := fun w' h => ⟨(HNr.out.call h).cell 0, (HTr.out.call h).cell 0, (HTr.out.call h).cell 1, (h.cell (p := ⟨bv, ov + i, none⟩) hbv).trans cv, (h.cell (p := ⟨bp, op + i, none⟩) hbp).trans cp, (h.cell (p := ⟨b, _, none⟩) hb).trans c0, (h.cell (p := ⟨b, _, none⟩) hb).trans c1, (h.cell (p := ⟨b, _, none⟩) hb).trans c2, (h.cell (p := ⟨b, _, none⟩) hb).trans c3, (h.cell (p := ⟨b, _, none⟩) hb).trans c4, (h.cell (p := ⟨b, _, none⟩) hb).trans c5, (h.cell (p := ⟨b, _, none⟩) hb).trans c6, (h.cell (p := ⟨b, _, none⟩) hb).trans c7, (h.cell (p := ⟨b, _, none⟩) hb).trans c8⟩
        clear hbv hbp
        refine wp_region_held_drew (S := (fun w' => w'.cell? ⟨gw, 0, none⟩ = some (.slice (some ⟨b, off, none⟩) n nc) ∧ w'.cell? ⟨gw + 1, 0, none⟩ = some (.slice (some ⟨bv, ov, none⟩) n vc) ∧ w'.cell? ⟨gw + 1, 1, none⟩ = some (.slice (some ⟨bp, op, none⟩) n pc) ∧ w'.cell? ⟨bv, ov + i, none⟩ = some (.int .i64 (V i)) ∧ w'.cell? ⟨bp, op + i, none⟩ = some (.int .i64 (P i)) ∧ w'.cell? ⟨b, off + i * 9, none⟩ = some (.string (D.Nm i)) ∧ w'.cell? ⟨b, off + i * 9 + 1, none⟩ = some (.int .i64 (D.Kd i)) ∧ w'.cell? ⟨b, off + i * 9 + 2, none⟩ = some (.int .i64 (D.Ax i)) ∧ w'.cell? ⟨b, off + i * 9 + 3, none⟩ = some (.int .i64 (D.Ay i)) ∧ w'.cell? ⟨b, off + i * 9 + 4, none⟩ = some (.int .i64 (D.Iv i)) ∧ w'.cell? ⟨b, off + i * 9 + 5, none⟩ = some (.int .i64 (D.Gd i)) ∧ w'.cell? ⟨b, off + i * 9 + 6, none⟩ = some (.slice (D.SA i) (D.SN i) (D.SC i)) ∧ w'.cell? ⟨b, off + i * 9 + 7, none⟩ = some (.bool (D.Pt i)) ∧ w'.cell? ⟨b, off + i * 9 + 8, none⟩ = some (.int .i64 (D.Rs i)))) (by kernel_rfl) ?_ (fun hHeld => ?_)
        · exact KS.out _ ((Below.refl _ wr).drew)
        refine tkR 0 (some 48) ?_
        refine tkR 1 (some 49) ?_
        refine tkR 2 (some 50) ?_
        refine tkR 3 (some 51) ?_
        refine tkR 4 (some 52) ?_
        refine tkR 5 (some 53) ?_
        refine tkR 6 (some 54) ?_
        refine tkR 7 (some 55) ?_
        refine tkR 8 (some 56) ?_
        refine tkR 9 (some 57) ?_
        refine tkR 10 (some 58) ?_
        refine tkR 11 (some 59) ?_
        refine tkR 12 (some 60) ?_
        refine tkR 13 (some 61) ?_
        refine tkR 14 (some 62) ?_
        refine tkR 15 (some 63) ?_
        refine tkR 16 (some 64) ?_
        refine wpAnyH_ready (rs := [17]) (by kernel_rfl) (by simp) ?_
        refine AllReadyH.cons rfl (fun K hK => ?_) AllReadyH.nil
        go_simp
        go_at_call 67
        with_reducible refine (SC.out _ ?_).mono ?_
        focus (exact HTB.out.below (Nat.le_refl _) ((Below.refl _ wr).drew))
        rintro e w5 ⟨rfl, hb5⟩
        have hq5 : Below wr.heap.size wr w5 := ((Below.refl _ wr).drew).trans hb5
        clear hb5
        go_wp2_with fail
        refine hK.out _ _ (KS.out _ hq5) (fun hHeldb1 => ?_)
        clear hK K hHeld
        (try simp only [Act.put, List.setIfInBounds_toArray, List.set_cons_zero, List.set_cons_succ])
        refine tkR 18 (some 66) ?_
        refine tkR 19 (some 67) ?_
        refine tkR 20 (some 68) ?_
        refine tkRN 21 (some 69) ?_
        refine tkRN 22 (some 70) ?_
        refine tkRN 23 (some 71) ?_
        refine tkRN 24 (some 72) ?_
        refine tkRN 25 (some 73) ?_
        refine tkRN 26 (some 74) ?_
        refine tkRN 27 (some 75) ?_
        refine tkR 28 (some 76) ?_
        refine tkR 29 (some 77) ?_
        refine tkRN 30 (some 78) ?_
        refine tkRN 31 (some 79) ?_
        refine tkRN 32 (some 80) ?_
        refine tkRN 33 (some 81) ?_
        refine tkRN 34 (some 82) ?_
        refine tkRN 35 (some 83) ?_
        refine tkRN 36 (some 84) ?_
        refine tkRN 37 (some 85) ?_
        refine tkRN 38 (some 86) ?_
        refine tkRN 39 (some 87) ?_
        refine tkRN 40 (some 88) ?_
        refine tkRN 41 (some 89) ?_
        refine tkRN 42 (some 90) ?_
        refine tkRN 43 (some 91) ?_
        refine tkRN 44 (some 92) ?_
        refine tkR 45 (some 93) ?_
        refine wpAnyH_done (by kernel_rfl) ?_ _
        go_wp2_with fail
        go_ret
        exact ⟨rfl, HWW.out.trans (hq5.mono HWW.out.size)⟩
      have t1 : decide (capF D i < V i) = false := decide_eq_false g1
      by_cases g2 : 0 ≤ P i ∧ P i ≤ 1125899906842624
      case neg =>
        obtain rfl : Z = false := HF.out fun h => g2 h.2.1
        rw [decide_eq_false g2] at sh
        have SH := Lib.hid sh
        clear sh g0 g1 g2 hlt
        go_upto_region 6 with fail
        have KS : Hid (∀ w', Below wr.heap.size wr w' → w'.cell? ⟨gw, 0, none⟩ = some (.slice (some ⟨b, off, none⟩) n nc) ∧ w'.cell? ⟨gw + 1, 0, none⟩ = some (.slice (some ⟨bv, ov, none⟩) n vc) ∧ w'.cell? ⟨gw + 1, 1, none⟩ = some (.slice (some ⟨bp, op, none⟩) n pc) ∧ w'.cell? ⟨bv, ov + i, none⟩ = some (.int .i64 (V i)) ∧ w'.cell? ⟨bp, op + i, none⟩ = some (.int .i64 (P i)) ∧ w'.cell? ⟨b, off + i * 9, none⟩ = some (.string (D.Nm i)) ∧ w'.cell? ⟨b, off + i * 9 + 1, none⟩ = some (.int .i64 (D.Kd i)) ∧ w'.cell? ⟨b, off + i * 9 + 2, none⟩ = some (.int .i64 (D.Ax i)) ∧ w'.cell? ⟨b, off + i * 9 + 3, none⟩ = some (.int .i64 (D.Ay i)) ∧ w'.cell? ⟨b, off + i * 9 + 4, none⟩ = some (.int .i64 (D.Iv i)) ∧ w'.cell? ⟨b, off + i * 9 + 5, none⟩ = some (.int .i64 (D.Gd i)) ∧ w'.cell? ⟨b, off + i * 9 + 6, none⟩ = some (.slice (D.SA i) (D.SN i) (D.SC i)) ∧ w'.cell? ⟨b, off + i * 9 + 7, none⟩ = some (.bool (D.Pt i)) ∧ w'.cell? ⟨b, off + i * 9 + 8, none⟩ = some (.int .i64 (D.Rs i))) := fun w' h => ⟨(HNr.out.call h).cell 0, (HTr.out.call h).cell 0, (HTr.out.call h).cell 1, (h.cell (p := ⟨bv, ov + i, none⟩) hbv).trans cv, (h.cell (p := ⟨bp, op + i, none⟩) hbp).trans cp, (h.cell (p := ⟨b, _, none⟩) hb).trans c0, (h.cell (p := ⟨b, _, none⟩) hb).trans c1, (h.cell (p := ⟨b, _, none⟩) hb).trans c2, (h.cell (p := ⟨b, _, none⟩) hb).trans c3, (h.cell (p := ⟨b, _, none⟩) hb).trans c4, (h.cell (p := ⟨b, _, none⟩) hb).trans c5, (h.cell (p := ⟨b, _, none⟩) hb).trans c6, (h.cell (p := ⟨b, _, none⟩) hb).trans c7, (h.cell (p := ⟨b, _, none⟩) hb).trans c8⟩
        clear hbv hbp
        refine wp_region_held_drew (S := (fun w' => w'.cell? ⟨gw, 0, none⟩ = some (.slice (some ⟨b, off, none⟩) n nc) ∧ w'.cell? ⟨gw + 1, 0, none⟩ = some (.slice (some ⟨bv, ov, none⟩) n vc) ∧ w'.cell? ⟨gw + 1, 1, none⟩ = some (.slice (some ⟨bp, op, none⟩) n pc) ∧ w'.cell? ⟨bv, ov + i, none⟩ = some (.int .i64 (V i)) ∧ w'.cell? ⟨bp, op + i, none⟩ = some (.int .i64 (P i)) ∧ w'.cell? ⟨b, off + i * 9, none⟩ = some (.string (D.Nm i)) ∧ w'.cell? ⟨b, off + i * 9 + 1, none⟩ = some (.int .i64 (D.Kd i)) ∧ w'.cell? ⟨b, off + i * 9 + 2, none⟩ = some (.int .i64 (D.Ax i)) ∧ w'.cell? ⟨b, off + i * 9 + 3, none⟩ = some (.int .i64 (D.Ay i)) ∧ w'.cell? ⟨b, off + i * 9 + 4, none⟩ = some (.int .i64 (D.Iv i)) ∧ w'.cell? ⟨b, off + i * 9 + 5, none⟩ = some (.int .i64 (D.Gd i)) ∧ w'.cell? ⟨b, off + i * 9 + 6, none⟩ = some (.slice (D.SA i) (D.SN i) (D.SC i)) ∧ w'.cell? ⟨b, off + i * 9 + 7, none⟩ = some (.bool (D.Pt i)) ∧ w'.cell? ⟨b, off + i * 9 + 8, none⟩ = some (.int .i64 (D.Rs i)))) (by kernel_rfl) ?_ (fun hHeld => ?_)
        · exact KS.out _ ((Below.refl _ wr).drew)
        refine tkR 0 (some 48) ?_
        refine tkR 1 (some 49) ?_
        refine tkR 2 (some 50) ?_
        refine tkR 3 (some 51) ?_
        refine tkR 4 (some 52) ?_
        refine tkR 5 (some 53) ?_
        refine tkR 6 (some 54) ?_
        refine tkR 7 (some 55) ?_
        refine tkR 8 (some 56) ?_
        refine tkR 9 (some 57) ?_
        refine tkR 10 (some 58) ?_
        refine tkR 11 (some 59) ?_
        refine tkR 12 (some 60) ?_
        refine tkR 13 (some 61) ?_
        refine tkR 14 (some 62) ?_
        refine tkR 15 (some 63) ?_
        refine tkR 16 (some 64) ?_
        refine wpAnyH_ready (rs := [17]) (by kernel_rfl) (by simp) ?_
        refine AllReadyH.cons rfl (fun K hK => ?_) AllReadyH.nil
        go_simp
        go_at_call 67
        with_reducible refine (SC.out _ ?_).mono ?_
        focus (exact HTB.out.below (Nat.le_refl _) ((Below.refl _ wr).drew))
        rintro e w5 ⟨rfl, hb5⟩
        have hq5 : Below wr.heap.size wr w5 := ((Below.refl _ wr).drew).trans hb5
        clear hb5
        go_wp2_with fail
        refine hK.out _ _ (KS.out _ hq5) (fun hHeldc1 => ?_)
        clear hK K hHeld
        (try simp only [Act.put, List.setIfInBounds_toArray, List.set_cons_zero, List.set_cons_succ])
        refine tkR 18 (some 66) ?_
        refine tkR 19 (some 67) ?_
        refine tkR 20 (some 68) ?_
        refine tkR 21 (some 69) ?_
        refine tkR 22 (some 70) ?_
        refine tkR 23 (some 71) ?_
        refine tkR 24 (some 72) ?_
        refine tkR 25 (some 73) ?_
        refine wpAnyH_ready (rs := [26]) (by kernel_rfl) (by simp) ?_
        refine AllReadyH.cons rfl (fun K hK => ?_) AllReadyH.nil
        go_simp
        go_at_call 68
        (with_reducible refine (SH.out _).mono ?_)
        rintro e w' ⟨rfl, rfl⟩
        go_wp2_with fail
        refine hK.out _ _ (KS.out _ hq5) (fun hHeldc2 => ?_)
        clear hK K hHeldc1
        (try simp only [Act.put, List.setIfInBounds_toArray, List.set_cons_zero, List.set_cons_succ])
        refine tkR 27 (some 75) ?_
        refine tkR 28 (some 76) ?_
        refine tkR 29 (some 77) ?_
        refine tkRN 30 (some 78) ?_
        refine tkRN 31 (some 79) ?_
        refine tkRN 32 (some 80) ?_
        refine tkRN 33 (some 81) ?_
        refine tkRN 34 (some 82) ?_
        refine tkRN 35 (some 83) ?_
        refine tkRN 36 (some 84) ?_
        refine tkRN 37 (some 85) ?_
        refine tkRN 38 (some 86) ?_
        refine tkRN 39 (some 87) ?_
        refine tkRN 40 (some 88) ?_
        refine tkRN 41 (some 89) ?_
        refine tkRN 42 (some 90) ?_
        refine tkRN 43 (some 91) ?_
        refine tkRN 44 (some 92) ?_
        refine tkR 45 (some 93) ?_
        refine wpAnyH_done (by kernel_rfl) ?_ _
        go_wp2_with fail
        go_ret
        exact ⟨rfl, HWW.out.trans (hq5.mono HWW.out.size)⟩
      rw [decide_eq_true g2] at sh
      by_cases g3 : D.Kd i = 3
      case neg =>
        have HGD := Lib.hid (HST.out ⟨by omega, g2, fun h => absurd h g3⟩)
        have t3 : (D.Kd i == 3) = false := by simpa using g3
        have SH := Lib.hid sh
        clear sh g0 g1 g2 g3 hlt
        go_upto_region 6 with fail
        have KS : Hid (∀ w', Below wr.heap.size wr w' → w'.cell? ⟨gw, 0, none⟩ = some (.slice (some ⟨b, off, none⟩) n nc) ∧ w'.cell? ⟨gw + 1, 0, none⟩ = some (.slice (some ⟨bv, ov, none⟩) n vc) ∧ w'.cell? ⟨gw + 1, 1, none⟩ = some (.slice (some ⟨bp, op, none⟩) n pc) ∧ w'.cell? ⟨bv, ov + i, none⟩ = some (.int .i64 (V i)) ∧ w'.cell? ⟨bp, op + i, none⟩ = some (.int .i64 (P i)) ∧ w'.cell? ⟨b, off + i * 9, none⟩ = some (.string (D.Nm i)) ∧ w'.cell? ⟨b, off + i * 9 + 1, none⟩ = some (.int .i64 (D.Kd i)) ∧ w'.cell? ⟨b, off + i * 9 + 2, none⟩ = some (.int .i64 (D.Ax i)) ∧ w'.cell? ⟨b, off + i * 9 + 3, none⟩ = some (.int .i64 (D.Ay i)) ∧ w'.cell? ⟨b, off + i * 9 + 4, none⟩ = some (.int .i64 (D.Iv i)) ∧ w'.cell? ⟨b, off + i * 9 + 5, none⟩ = some (.int .i64 (D.Gd i)) ∧ w'.cell? ⟨b, off + i * 9 + 6, none⟩ = some (.slice (D.SA i) (D.SN i) (D.SC i)) ∧ w'.cell? ⟨b, off + i * 9 + 7, none⟩ = some (.bool (D.Pt i)) ∧ w'.cell? ⟨b, off + i * 9 + 8, none⟩ = some (.int .i64 (D.Rs i))) := fun w' h => ⟨(HNr.out.call h).cell 0, (HTr.out.call h).cell 0, (HTr.out.call h).cell 1, (h.cell (p := ⟨bv, ov + i, none⟩) hbv).trans cv, (h.cell (p := ⟨bp, op + i, none⟩) hbp).trans cp, (h.cell (p := ⟨b, _, none⟩) hb).trans c0, (h.cell (p := ⟨b, _, none⟩) hb).trans c1, (h.cell (p := ⟨b, _, none⟩) hb).trans c2, (h.cell (p := ⟨b, _, none⟩) hb).trans c3, (h.cell (p := ⟨b, _, none⟩) hb).trans c4, (h.cell (p := ⟨b, _, none⟩) hb).trans c5, (h.cell (p := ⟨b, _, none⟩) hb).trans c6, (h.cell (p := ⟨b, _, none⟩) hb).trans c7, (h.cell (p := ⟨b, _, none⟩) hb).trans c8⟩
        clear hbv hbp
        refine wp_region_held_drew (S := (fun w' => w'.cell? ⟨gw, 0, none⟩ = some (.slice (some ⟨b, off, none⟩) n nc) ∧ w'.cell? ⟨gw + 1, 0, none⟩ = some (.slice (some ⟨bv, ov, none⟩) n vc) ∧ w'.cell? ⟨gw + 1, 1, none⟩ = some (.slice (some ⟨bp, op, none⟩) n pc) ∧ w'.cell? ⟨bv, ov + i, none⟩ = some (.int .i64 (V i)) ∧ w'.cell? ⟨bp, op + i, none⟩ = some (.int .i64 (P i)) ∧ w'.cell? ⟨b, off + i * 9, none⟩ = some (.string (D.Nm i)) ∧ w'.cell? ⟨b, off + i * 9 + 1, none⟩ = some (.int .i64 (D.Kd i)) ∧ w'.cell? ⟨b, off + i * 9 + 2, none⟩ = some (.int .i64 (D.Ax i)) ∧ w'.cell? ⟨b, off + i * 9 + 3, none⟩ = some (.int .i64 (D.Ay i)) ∧ w'.cell? ⟨b, off + i * 9 + 4, none⟩ = some (.int .i64 (D.Iv i)) ∧ w'.cell? ⟨b, off + i * 9 + 5, none⟩ = some (.int .i64 (D.Gd i)) ∧ w'.cell? ⟨b, off + i * 9 + 6, none⟩ = some (.slice (D.SA i) (D.SN i) (D.SC i)) ∧ w'.cell? ⟨b, off + i * 9 + 7, none⟩ = some (.bool (D.Pt i)) ∧ w'.cell? ⟨b, off + i * 9 + 8, none⟩ = some (.int .i64 (D.Rs i)))) (by kernel_rfl) ?_ (fun hHeld => ?_)
        · exact KS.out _ ((Below.refl _ wr).drew)
        refine tkR 0 (some 48) ?_
        refine tkR 1 (some 49) ?_
        refine tkR 2 (some 50) ?_
        refine tkR 3 (some 51) ?_
        refine tkR 4 (some 52) ?_
        refine tkR 5 (some 53) ?_
        refine tkR 6 (some 54) ?_
        refine tkR 7 (some 55) ?_
        refine tkR 8 (some 56) ?_
        refine tkR 9 (some 57) ?_
        refine tkR 10 (some 58) ?_
        refine tkR 11 (some 59) ?_
        refine tkR 12 (some 60) ?_
        refine tkR 13 (some 61) ?_
        refine tkR 14 (some 62) ?_
        refine tkR 15 (some 63) ?_
        refine tkR 16 (some 64) ?_
        refine wpAnyH_ready (rs := [17]) (by kernel_rfl) (by simp) ?_
        refine AllReadyH.cons rfl (fun K hK => ?_) AllReadyH.nil
        go_simp
        go_at_call 67
        with_reducible refine (SC.out _ ?_).mono ?_
        focus (exact HTB.out.below (Nat.le_refl _) ((Below.refl _ wr).drew))
        rintro e w5 ⟨rfl, hb5⟩
        have hq5 : Below wr.heap.size wr w5 := ((Below.refl _ wr).drew).trans hb5
        clear hb5
        go_wp2_with fail
        refine hK.out _ _ (KS.out _ hq5) (fun hHeldd1 => ?_)
        clear hK K hHeld
        (try simp only [Act.put, List.setIfInBounds_toArray, List.set_cons_zero, List.set_cons_succ])
        refine tkR 18 (some 66) ?_
        refine tkR 19 (some 67) ?_
        refine tkR 20 (some 68) ?_
        refine tkR 21 (some 69) ?_
        refine tkR 22 (some 70) ?_
        refine tkR 23 (some 71) ?_
        refine tkR 24 (some 72) ?_
        refine tkR 25 (some 73) ?_
        refine wpAnyH_ready (rs := [26]) (by kernel_rfl) (by simp) ?_
        refine AllReadyH.cons rfl (fun K hK => ?_) AllReadyH.nil
        go_simp
        go_at_call 68
        (with_reducible refine (SH.out _).mono ?_)
        rintro e w' ⟨rfl, rfl⟩
        go_wp2_with fail
        refine hK.out _ _ (KS.out _ hq5) (fun hHeldd2 => ?_)
        clear hK K hHeldd1
        (try simp only [Act.put, List.setIfInBounds_toArray, List.set_cons_zero, List.set_cons_succ])
        refine tkR 27 (some 75) ?_
        refine tkR 28 (some 76) ?_
        refine tkR 29 (some 77) ?_
        refine tkR 30 (some 78) ?_
        refine tkR 31 (some 79) ?_
        refine tkR 32 (some 80) ?_
        refine tkR 33 (some 81) ?_
        refine tkR 34 (some 82) ?_
        refine tkR 35 (some 83) ?_
        refine tkR 36 (some 84) ?_
        refine tkR 37 (some 85) ?_
        refine tkRN 38 (some 86) ?_
        refine tkRN 39 (some 87) ?_
        refine tkRN 40 (some 88) ?_
        refine tkRN 41 (some 89) ?_
        refine tkRN 42 (some 90) ?_
        refine tkRN 43 (some 91) ?_
        refine tkR 44 (some 92) ?_
        refine tkR 45 (some 93) ?_
        refine wpAnyH_done (by kernel_rfl) ?_ _
        go_wp2_with fail
        go_roundw
        case rel => exact ⟨i', HI', rfl, HGD.out, HW.out.trans (hq5.mono HW.out.size)⟩
        case measure => exact HMS.out
      have t3 : (D.Kd i == 3) = true := by simpa using g3
      by_cases g4 : P i = 0
      case neg =>
        obtain rfl : Z = false := HF.out fun h => g4 (h.2.2 g3)
        have t4 : (P i != 0) = true := by simpa using g4
        have t5 : (P i == 0) = false := by simpa using g4
        have SH := Lib.hid sh
        clear sh g0 g1 g2 g3 g4 hlt
        go_upto_region 6 with fail
        have KS : Hid (∀ w', Below wr.heap.size wr w' → w'.cell? ⟨gw, 0, none⟩ = some (.slice (some ⟨b, off, none⟩) n nc) ∧ w'.cell? ⟨gw + 1, 0, none⟩ = some (.slice (some ⟨bv, ov, none⟩) n vc) ∧ w'.cell? ⟨gw + 1, 1, none⟩ = some (.slice (some ⟨bp, op, none⟩) n pc) ∧ w'.cell? ⟨bv, ov + i, none⟩ = some (.int .i64 (V i)) ∧ w'.cell? ⟨bp, op + i, none⟩ = some (.int .i64 (P i)) ∧ w'.cell? ⟨b, off + i * 9, none⟩ = some (.string (D.Nm i)) ∧ w'.cell? ⟨b, off + i * 9 + 1, none⟩ = some (.int .i64 (D.Kd i)) ∧ w'.cell? ⟨b, off + i * 9 + 2, none⟩ = some (.int .i64 (D.Ax i)) ∧ w'.cell? ⟨b, off + i * 9 + 3, none⟩ = some (.int .i64 (D.Ay i)) ∧ w'.cell? ⟨b, off + i * 9 + 4, none⟩ = some (.int .i64 (D.Iv i)) ∧ w'.cell? ⟨b, off + i * 9 + 5, none⟩ = some (.int .i64 (D.Gd i)) ∧ w'.cell? ⟨b, off + i * 9 + 6, none⟩ = some (.slice (D.SA i) (D.SN i) (D.SC i)) ∧ w'.cell? ⟨b, off + i * 9 + 7, none⟩ = some (.bool (D.Pt i)) ∧ w'.cell? ⟨b, off + i * 9 + 8, none⟩ = some (.int .i64 (D.Rs i))) := fun w' h => ⟨(HNr.out.call h).cell 0, (HTr.out.call h).cell 0, (HTr.out.call h).cell 1, (h.cell (p := ⟨bv, ov + i, none⟩) hbv).trans cv, (h.cell (p := ⟨bp, op + i, none⟩) hbp).trans cp, (h.cell (p := ⟨b, _, none⟩) hb).trans c0, (h.cell (p := ⟨b, _, none⟩) hb).trans c1, (h.cell (p := ⟨b, _, none⟩) hb).trans c2, (h.cell (p := ⟨b, _, none⟩) hb).trans c3, (h.cell (p := ⟨b, _, none⟩) hb).trans c4, (h.cell (p := ⟨b, _, none⟩) hb).trans c5, (h.cell (p := ⟨b, _, none⟩) hb).trans c6, (h.cell (p := ⟨b, _, none⟩) hb).trans c7, (h.cell (p := ⟨b, _, none⟩) hb).trans c8⟩
        clear hbv hbp
        refine wp_region_held_drew (S := (fun w' => w'.cell? ⟨gw, 0, none⟩ = some (.slice (some ⟨b, off, none⟩) n nc) ∧ w'.cell? ⟨gw + 1, 0, none⟩ = some (.slice (some ⟨bv, ov, none⟩) n vc) ∧ w'.cell? ⟨gw + 1, 1, none⟩ = some (.slice (some ⟨bp, op, none⟩) n pc) ∧ w'.cell? ⟨bv, ov + i, none⟩ = some (.int .i64 (V i)) ∧ w'.cell? ⟨bp, op + i, none⟩ = some (.int .i64 (P i)) ∧ w'.cell? ⟨b, off + i * 9, none⟩ = some (.string (D.Nm i)) ∧ w'.cell? ⟨b, off + i * 9 + 1, none⟩ = some (.int .i64 (D.Kd i)) ∧ w'.cell? ⟨b, off + i * 9 + 2, none⟩ = some (.int .i64 (D.Ax i)) ∧ w'.cell? ⟨b, off + i * 9 + 3, none⟩ = some (.int .i64 (D.Ay i)) ∧ w'.cell? ⟨b, off + i * 9 + 4, none⟩ = some (.int .i64 (D.Iv i)) ∧ w'.cell? ⟨b, off + i * 9 + 5, none⟩ = some (.int .i64 (D.Gd i)) ∧ w'.cell? ⟨b, off + i * 9 + 6, none⟩ = some (.slice (D.SA i) (D.SN i) (D.SC i)) ∧ w'.cell? ⟨b, off + i * 9 + 7, none⟩ = some (.bool (D.Pt i)) ∧ w'.cell? ⟨b, off + i * 9 + 8, none⟩ = some (.int .i64 (D.Rs i)))) (by kernel_rfl) ?_ (fun hHeld => ?_)
        · exact KS.out _ ((Below.refl _ wr).drew)
        refine tkR 0 (some 48) ?_
        refine tkR 1 (some 49) ?_
        refine tkR 2 (some 50) ?_
        refine tkR 3 (some 51) ?_
        refine tkR 4 (some 52) ?_
        refine tkR 5 (some 53) ?_
        refine tkR 6 (some 54) ?_
        refine tkR 7 (some 55) ?_
        refine tkR 8 (some 56) ?_
        refine tkR 9 (some 57) ?_
        refine tkR 10 (some 58) ?_
        refine tkR 11 (some 59) ?_
        refine tkR 12 (some 60) ?_
        refine tkR 13 (some 61) ?_
        refine tkR 14 (some 62) ?_
        refine tkR 15 (some 63) ?_
        refine tkR 16 (some 64) ?_
        refine wpAnyH_ready (rs := [17]) (by kernel_rfl) (by simp) ?_
        refine AllReadyH.cons rfl (fun K hK => ?_) AllReadyH.nil
        go_simp
        go_at_call 67
        with_reducible refine (SC.out _ ?_).mono ?_
        focus (exact HTB.out.below (Nat.le_refl _) ((Below.refl _ wr).drew))
        rintro e w5 ⟨rfl, hb5⟩
        have hq5 : Below wr.heap.size wr w5 := ((Below.refl _ wr).drew).trans hb5
        clear hb5
        go_wp2_with fail
        refine hK.out _ _ (KS.out _ hq5) (fun hHelde1 => ?_)
        clear hK K hHeld
        (try simp only [Act.put, List.setIfInBounds_toArray, List.set_cons_zero, List.set_cons_succ])
        refine tkR 18 (some 66) ?_
        refine tkR 19 (some 67) ?_
        refine tkR 20 (some 68) ?_
        refine tkR 21 (some 69) ?_
        refine tkR 22 (some 70) ?_
        refine tkR 23 (some 71) ?_
        refine tkR 24 (some 72) ?_
        refine tkR 25 (some 73) ?_
        refine wpAnyH_ready (rs := [26]) (by kernel_rfl) (by simp) ?_
        refine AllReadyH.cons rfl (fun K hK => ?_) AllReadyH.nil
        go_simp
        go_at_call 68
        (with_reducible refine (SH.out _).mono ?_)
        rintro e w' ⟨rfl, rfl⟩
        go_wp2_with fail
        refine hK.out _ _ (KS.out _ hq5) (fun hHelde2 => ?_)
        clear hK K hHelde1
        (try simp only [Act.put, List.setIfInBounds_toArray, List.set_cons_zero, List.set_cons_succ])
        refine tkR 27 (some 75) ?_
        refine tkR 28 (some 76) ?_
        refine tkR 29 (some 77) ?_
        refine tkR 30 (some 78) ?_
        refine tkR 31 (some 79) ?_
        refine tkR 32 (some 80) ?_
        refine tkR 33 (some 81) ?_
        refine tkR 34 (some 82) ?_
        refine tkR 35 (some 83) ?_
        refine tkR 36 (some 84) ?_
        refine tkR 37 (some 85) ?_
        refine tkR 38 (some 86) ?_
        refine tkR 39 (some 87) ?_
        refine tkR 40 (some 88) ?_
        refine tkR 41 (some 89) ?_
        refine tkR 42 (some 90) ?_
        refine tkR 43 (some 91) ?_
        refine tkR 44 (some 92) ?_
        refine tkR 45 (some 93) ?_
        refine wpAnyH_done (by kernel_rfl) ?_ _
        go_wp2_with fail
        go_ret
        exact ⟨rfl, HWW.out.trans (hq5.mono HWW.out.size)⟩
      have HGD := Lib.hid (HST.out ⟨by omega, g2, fun _ => g4⟩)
      have t4 : (P i != 0) = false := by simpa using g4
      have t5 : (P i == 0) = true := by simpa using g4
      have SH := Lib.hid sh
      clear sh g0 g1 g2 g3 g4 hlt
      go_upto_region 6 with fail
      have KS : Hid (∀ w', Below wr.heap.size wr w' → w'.cell? ⟨gw, 0, none⟩ = some (.slice (some ⟨b, off, none⟩) n nc) ∧ w'.cell? ⟨gw + 1, 0, none⟩ = some (.slice (some ⟨bv, ov, none⟩) n vc) ∧ w'.cell? ⟨gw + 1, 1, none⟩ = some (.slice (some ⟨bp, op, none⟩) n pc) ∧ w'.cell? ⟨bv, ov + i, none⟩ = some (.int .i64 (V i)) ∧ w'.cell? ⟨bp, op + i, none⟩ = some (.int .i64 (P i)) ∧ w'.cell? ⟨b, off + i * 9, none⟩ = some (.string (D.Nm i)) ∧ w'.cell? ⟨b, off + i * 9 + 1, none⟩ = some (.int .i64 (D.Kd i)) ∧ w'.cell? ⟨b, off + i * 9 + 2, none⟩ = some (.int .i64 (D.Ax i)) ∧ w'.cell? ⟨b, off + i * 9 + 3, none⟩ = some (.int .i64 (D.Ay i)) ∧ w'.cell? ⟨b, off + i * 9 + 4, none⟩ = some (.int .i64 (D.Iv i)) ∧ w'.cell? ⟨b, off + i * 9 + 5, none⟩ = some (.int .i64 (D.Gd i)) ∧ w'.cell? ⟨b, off + i * 9 + 6, none⟩ = some (.slice (D.SA i) (D.SN i) (D.SC i)) ∧ w'.cell? ⟨b, off + i * 9 + 7, none⟩ = some (.bool (D.Pt i)) ∧ w'.cell? ⟨b, off + i * 9 + 8, none⟩ = some (.int .i64 (D.Rs i))) := fun w' h => ⟨(HNr.out.call h).cell 0, (HTr.out.call h).cell 0, (HTr.out.call h).cell 1, (h.cell (p := ⟨bv, ov + i, none⟩) hbv).trans cv, (h.cell (p := ⟨bp, op + i, none⟩) hbp).trans cp, (h.cell (p := ⟨b, _, none⟩) hb).trans c0, (h.cell (p := ⟨b, _, none⟩) hb).trans c1, (h.cell (p := ⟨b, _, none⟩) hb).trans c2, (h.cell (p := ⟨b, _, none⟩) hb).trans c3, (h.cell (p := ⟨b, _, none⟩) hb).trans c4, (h.cell (p := ⟨b, _, none⟩) hb).trans c5, (h.cell (p := ⟨b, _, none⟩) hb).trans c6, (h.cell (p := ⟨b, _, none⟩) hb).trans c7, (h.cell (p := ⟨b, _, none⟩) hb).trans c8⟩
      clear hbv hbp
      refine wp_region_held_drew (S := (fun w' => w'.cell? ⟨gw, 0, none⟩ = some (.slice (some ⟨b, off, none⟩) n nc) ∧ w'.cell? ⟨gw + 1, 0, none⟩ = some (.slice (some ⟨bv, ov, none⟩) n vc) ∧ w'.cell? ⟨gw + 1, 1, none⟩ = some (.slice (some ⟨bp, op, none⟩) n pc) ∧ w'.cell? ⟨bv, ov + i, none⟩ = some (.int .i64 (V i)) ∧ w'.cell? ⟨bp, op + i, none⟩ = some (.int .i64 (P i)) ∧ w'.cell? ⟨b, off + i * 9, none⟩ = some (.string (D.Nm i)) ∧ w'.cell? ⟨b, off + i * 9 + 1, none⟩ = some (.int .i64 (D.Kd i)) ∧ w'.cell? ⟨b, off + i * 9 + 2, none⟩ = some (.int .i64 (D.Ax i)) ∧ w'.cell? ⟨b, off + i * 9 + 3, none⟩ = some (.int .i64 (D.Ay i)) ∧ w'.cell? ⟨b, off + i * 9 + 4, none⟩ = some (.int .i64 (D.Iv i)) ∧ w'.cell? ⟨b, off + i * 9 + 5, none⟩ = some (.int .i64 (D.Gd i)) ∧ w'.cell? ⟨b, off + i * 9 + 6, none⟩ = some (.slice (D.SA i) (D.SN i) (D.SC i)) ∧ w'.cell? ⟨b, off + i * 9 + 7, none⟩ = some (.bool (D.Pt i)) ∧ w'.cell? ⟨b, off + i * 9 + 8, none⟩ = some (.int .i64 (D.Rs i)))) (by kernel_rfl) ?_ (fun hHeld => ?_)
      · exact KS.out _ ((Below.refl _ wr).drew)
      refine tkR 0 (some 48) ?_
      refine tkR 1 (some 49) ?_
      refine tkR 2 (some 50) ?_
      refine tkR 3 (some 51) ?_
      refine tkR 4 (some 52) ?_
      refine tkR 5 (some 53) ?_
      refine tkR 6 (some 54) ?_
      refine tkR 7 (some 55) ?_
      refine tkR 8 (some 56) ?_
      refine tkR 9 (some 57) ?_
      refine tkR 10 (some 58) ?_
      refine tkR 11 (some 59) ?_
      refine tkR 12 (some 60) ?_
      refine tkR 13 (some 61) ?_
      refine tkR 14 (some 62) ?_
      refine tkR 15 (some 63) ?_
      refine tkR 16 (some 64) ?_
      refine wpAnyH_ready (rs := [17]) (by kernel_rfl) (by simp) ?_
      refine AllReadyH.cons rfl (fun K hK => ?_) AllReadyH.nil
      go_simp
      go_at_call 67
      with_reducible refine (SC.out _ ?_).mono ?_
      focus (exact HTB.out.below (Nat.le_refl _) ((Below.refl _ wr).drew))
      rintro e w5 ⟨rfl, hb5⟩
      have hq5 : Below wr.heap.size wr w5 := ((Below.refl _ wr).drew).trans hb5
      clear hb5
      go_wp2_with fail
      refine hK.out _ _ (KS.out _ hq5) (fun hHeldf1 => ?_)
      clear hK K hHeld
      (try simp only [Act.put, List.setIfInBounds_toArray, List.set_cons_zero, List.set_cons_succ])
      refine tkR 18 (some 66) ?_
      refine tkR 19 (some 67) ?_
      refine tkR 20 (some 68) ?_
      refine tkR 21 (some 69) ?_
      refine tkR 22 (some 70) ?_
      refine tkR 23 (some 71) ?_
      refine tkR 24 (some 72) ?_
      refine tkR 25 (some 73) ?_
      refine wpAnyH_ready (rs := [26]) (by kernel_rfl) (by simp) ?_
      refine AllReadyH.cons rfl (fun K hK => ?_) AllReadyH.nil
      go_simp
      go_at_call 68
      (with_reducible refine (SH.out _).mono ?_)
      rintro e w' ⟨rfl, rfl⟩
      go_wp2_with fail
      refine hK.out _ _ (KS.out _ hq5) (fun hHeldf2 => ?_)
      clear hK K hHeldf1
      (try simp only [Act.put, List.setIfInBounds_toArray, List.set_cons_zero, List.set_cons_succ])
      refine tkR 27 (some 75) ?_
      refine tkR 28 (some 76) ?_
      refine tkR 29 (some 77) ?_
      refine tkR 30 (some 78) ?_
      refine tkR 31 (some 79) ?_
      refine tkR 32 (some 80) ?_
      refine tkR 33 (some 81) ?_
      refine tkR 34 (some 82) ?_
      refine tkR 35 (some 83) ?_
      refine tkR 36 (some 84) ?_
      refine tkR 37 (some 85) ?_
      refine tkR 38 (some 86) ?_
      refine tkR 39 (some 87) ?_
      refine tkR 40 (some 88) ?_
      refine tkR 41 (some 89) ?_
      refine tkR 42 (some 90) ?_
      refine tkR 43 (some 91) ?_
      refine tkR 44 (some 92) ?_
      refine tkR 45 (some 93) ?_
      refine wpAnyH_done (by kernel_rfl) ?_ _
      go_wp2_with fail
      go_roundw
      case rel => exact ⟨i', HI', rfl, HGD.out, HW.out.trans (hq5.mono HW.out.size)⟩
      case measure => exact HMS.out
    · have hin : i = n := by have := Hi.out; omega
      have T0 : decide ((i : Int) < (n : Int)) = false := by simp <;> omega
      have T0' : decide (i < n) = false := decide_eq_false hlt
      have HALL1 : Hid (∀ j, j < n → stnQ D V P j) := fun j hj => HG.out j (by omega)
      clear hin hlt
      go_wp2_with fail
      clear HN0 HT0 HNr HTr d0 d1 s0 s1 s2 s3
      have HNn := Lib.hid (HNy.out.call HW.out)
      have HTn := Lib.hid (HTy.out.call HW.out)
      clear HNy HTy HW0 HW
      have HWn := HWW
      clear HWW
      obtain ⟨w3, rfl⟩ : ∃ w3 : World, w3 = wr := ⟨_, rfl⟩
      obtain ⟨d0, d1⟩ := blk2 HNn.out
      obtain ⟨s0, s1, s2, s3⟩ := blk4 HTn.out
      go_loopw [6] (fun u wr => ∃ i : Nat, Hid (i ≤ m) ∧ u = .int .i64 i ∧ Hid (∀ j, j < i → stlQ K Q O j) ∧ Hid (Below w3.heap.size w3 wr)) (fun u _ => m - (RowKit.intOf u).toNat)
      case atStart => exact ⟨0, Nat.zero_le _, rfl, fun j hj => absurd hj (Nat.not_lt_zero _), Below.refl _ _⟩
      case round =>
        obtain ⟨i, Hi, rfl, HG, HW⟩ := hrel
        have HWW : Hid (Below w.heap.size w wr) := HWn.out.trans (HW.out.mono HWn.out.size)
        have HNr := Lib.hid (HNn.out.call HW.out)
        have HTr := Lib.hid (HTn.out.call HW.out)
        obtain ⟨d0, d1⟩ := blk2 HNr.out
        obtain ⟨s0, s1, s2, s3⟩ := blk4 HTr.out
        by_cases hlt : i < m
        · have T0 : decide ((i : Int) < (m : Int)) = true := by simp <;> omega
          have T0' : decide (i < m) = true := decide_eq_true hlt
          obtain ⟨i', hi'⟩ : ∃ z, z = i + 1 := ⟨_, rfl⟩
          have x0 : IntKind.i64.wrap ((i : Int) + 1) = (i' : Int) := by have := HZ.out.n2; have := HZ.out.m2; rw [IntKind.wrap_i64]; omega
          have HI' : Hid (i' ≤ m) := by show i' ≤ m; omega
          have HMS : Hid (m - (RowKit.intOf (Value.int .i64 (i' : Int))).toNat < m - (RowKit.intOf (Value.int .i64 (i : Int))).toNat) := by show _ < _; simp [RowKit.intOf]; omega
          have k0 : (0 : Int) ≤ (i : Int) := by omega
          have k1 : (i : Int) < (m : Int) := by omega
          have HST : Hid (stlQ K Q O i → ∀ j, j < i' → stlQ K Q O j) := fun h j hj => by
            rcases Nat.lt_or_ge j i with g | g
            · exact HG.out j g
            · have : j = i := by omega
              rw [this]; exact h
          obtain ⟨b, off, rfl, hb, hC, _⟩ := (HK.out.below (Nat.le_refl _) HWW.out).at hlt
          obtain ⟨bq, oq, rfl, hbq, cq⟩ := (HQi.out.below (Nat.le_refl _) HWW.out).at hlt
          obtain ⟨bo, oo, rfl, hbo, co⟩ := (HOi.out.below (Nat.le_refl _) HWW.out).at hlt
          have c3 := hC 3 _ rfl
          have HF : Hid (¬ stlQ K Q O i → Z = false) := HZL.out i hlt
          clear hi' hC
          by_cases g0 : Q i < 0
          case pos =>
            obtain rfl : Z = false := HF.out fun h => by have := h.1.1; omega
            have t0 : decide (Q i < 0) = true := decide_eq_true g0
            clear g0 hlt
            go_wp2_with fail
            go_ret
            exact ⟨rfl, HWW.out⟩
          have t0 : decide (Q i < 0) = false := decide_eq_false g0
          by_cases g1 : 1000 < Q i
          case pos =>
            obtain rfl : Z = false := HF.out fun h => by have := h.1.2; omega
            have t1 : decide (1000 < Q i) = true := decide_eq_true g1
            clear g0 g1 hlt
            go_wp2_with fail
            go_ret
            exact ⟨rfl, HWW.out⟩
          have t1 : decide (1000 < Q i) = false := decide_eq_false g1
          by_cases g2 : O i = true
          case neg =>
            have g2' : O i = false := by simpa using g2
            have HGD := Lib.hid (HST.out ⟨by omega, fun h => absurd h g2⟩)
            rw [g2'] at co
            clear g0 g1 g2 g2' hlt
            go_wp2_with fail
            go_roundw
            case rel => exact ⟨i', HI', rfl, HGD.out, HW.out⟩
            case measure => exact HMS.out
          rw [g2] at co
          by_cases g3 : K.Kd i = 4
          case neg =>
            obtain rfl : Z = false := HF.out fun h => g3 (h.2 g2)
            have t3 : (K.Kd i != 4) = true := by simpa using g3
            have t4 : (K.Kd i == 4) = false := by simpa using g3
            clear g0 g1 g2 g3 hlt
            go_wp2_with fail
            go_ret
            exact ⟨rfl, HWW.out⟩
          have HGD := Lib.hid (HST.out ⟨by omega, fun _ => g3⟩)
          have t3 : (K.Kd i != 4) = false := by simpa using g3
          have t4 : (K.Kd i == 4) = true := by simpa using g3
          clear g0 g1 g2 g3 hlt
          go_wp2_with fail
          go_roundw
          case rel => exact ⟨i', HI', rfl, HGD.out, HW.out⟩
          case measure => exact HMS.out
        · have hin : i = m := by have := Hi.out; omega
          have T0 : decide ((i : Int) < (m : Int)) = false := by simp <;> omega
          have T0' : decide (i < m) = false := decide_eq_false hlt
          have HALL2 : Hid (∀ j, j < m → stlQ K Q O j) := fun j hj => HG.out j (by omega)
          clear hin hlt
          obtain rfl : Z = true := HZT.out HALL1.out HALL2.out
          go_wp2_with fail
          go_ret
          exact ⟨rfl, HWW.out⟩
end Go.Proofs.YtfgakaielfekoaaGreatDoor

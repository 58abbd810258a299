/- A circular section, by the reference. -/
import Derived.Test.YtchapkjloicfnaaRefI
namespace Go.Proofs.Ytchapkjloicfnaa
open Go.RowKit
set_option linter.unusedVariables false
set_option linter.unusedSimpArgs false

/-- The struct that grows, of two rows that own their cells, and the result's place, behind n knots. -/
def RMem (w wr : World) (nm : ByteArray) (S P pr G n : Nat) : Prop := ∃ vA vC : Value,
  Blk wr w.heap.size 25 #[.string ByteArray.empty, .int .i64 0, .int .i64 0, .slice none 0 0, .slice none 0 0] ∧
  Blk wr G 25 #[.string nm, .int .i64 (S : Int), .int .i64 (pr : Int), vA, vC] ∧
  wr.ownsRow (w.heap.size + 1) 39 2 vA n (knots (Circ.cd S P) (Circ.ca S P) n) ∧
  wr.ownsRow (w.heap.size + 1) 39 2 vC n (knots (Circ.cd S P) (Circ.ck S P) n) ∧ (∀ g, vA.ownBlock = some g → vC.ownBlock ≠ some g) ∧ Below w.heap.size w wr

theorem rmem_step {w w1 w2 w3 : World} {nm : ByteArray} {S P pr n G : Nat} {vA vC v2 v3 : Value} {o1 o2 : Obj} (hG : w.heap.size + 1 ≤ G)
    (bR : Blk w1 w.heap.size 25 #[.string ByteArray.empty, .int .i64 0, .int .i64 0, .slice none 0 0, .slice none 0 0])
    (bG : Blk w1 G 25 #[.string nm, .int .i64 (S : Int), .int .i64 (pr : Int), vA, vC])
    (oA : w1.ownsRow (w.heap.size + 1) 39 2 vA n (knots (Circ.cd S P) (Circ.ca S P) n))
    (oC : w1.ownsRow (w.heap.size + 1) 39 2 vC n (knots (Circ.cd S P) (Circ.ck S P) n)) (hne : ∀ g, vA.ownBlock = some g → vC.ownBlock ≠ some g) (hbw : Below w.heap.size w w1)
    (h2 : w2.ownsRow (w.heap.size + 1) 39 2 v2 (n + 1) (knots (Circ.cd S P) (Circ.ca S P) (n + 1))) (hg2 : (w1.alloc o1).grownBy w2 vA.ownBlock) (ha2 : v2.ownBlock = vA.ownBlock ∨ v2.ownBlock = some (w1.alloc o1).heap.size)
    (h3 : w3.ownsRow (w.heap.size + 1) 39 2 v3 (n + 1) (knots (Circ.cd S P) (Circ.ck S P) (n + 1))) (hg3 : ((w2.setCell ⟨G, 3, none⟩ v2).alloc o2).grownBy w3 vC.ownBlock)
    (ha3 : v3.ownBlock = vC.ownBlock ∨ v3.ownBlock = some ((w2.setCell ⟨G, 3, none⟩ v2).alloc o2).heap.size) :
    RMem w (w3.setCell ⟨G, 4, none⟩ v3) nm S P pr G (n + 1) := by
  have nA := own_blk_ne oA bG (by decide)
  have nC := own_blk_ne oC bG (by decide)
  have rA := own_blk_ne oA bR (by decide)
  have rC := own_blk_ne oC bR (by decide)
  have lA := oA.lt
  have lC := oC.lt
  have lG := bG.lt
  have z2 := hg2.size
  have z3 := hg3.size
  simp at z2 z3
  have bR2 : Blk w2 w.heap.size _ _ := (bR.alloc o1).grown hg2 rA.symm
  have bG2 : Blk w2 G _ _ := (bG.alloc o1).grown hg2 nA.symm
  have bR3 : Blk w3 w.heap.size _ _ := ((bR2.far (p := ⟨G, 3, none⟩) (by simp; omega) _).alloc o2).grown hg3 rC.symm
  have bG3 : Blk w3 G _ _ := ((bG2.set_ 3 _).alloc o2).grown hg3 nC.symm
  have n2 := own_blk_ne h2 bG2 (by decide)
  have n3 := own_blk_ne h3 bG3 (by decide)
  have l2 := h2.lt
  have e2 : ∀ g, v2.ownBlock = some g → vC.ownBlock ≠ some g := fun g hg hc => by
    rcases ha2 with h | h
    · exact hne g (h.symm.trans hg) hc
    · have := (lC g hc).2
      rw [hg] at h
      injection h with h
      simp at h; omega
  have e2' : v2.ownBlock = none ∨ v2.ownBlock ≠ vC.ownBlock := by
    cases hv : v2.ownBlock with
    | none => exact .inl rfl
    | some g => exact .inr (fun h => e2 g hv h.symm)
  have A3 : w3.ownsRow (w.heap.size + 1) 39 2 v2 (n + 1) (knots (Circ.cd S P) (Circ.ca S P) (n + 1)) := ((own_setCell (p := ⟨G, 3, none⟩) h2 n2 _).alloc o2).kept hg3 e2'
  have hb2 : Below w.heap.size w w2 := (hbw.alloc (by omega) o1).grown hg2 (by simp; omega) (fun k hk => by have := (lA k hk).1; omega)
  have hb3 : Below w.heap.size w w3 := ((hb2.setCell (p := ⟨G, 3, none⟩) (by show w.heap.size ≤ G; omega) _).alloc (by simp; omega) o2).grown hg3 (by simp; omega) (fun k hk => by have := (lC k hk).1; omega)
  have e3 : ∀ g, v2.ownBlock = some g → v3.ownBlock ≠ some g := fun g hg hc => by
    rcases ha3 with h | h
    · exact e2 g hg (h.symm.trans hc)
    · have := (l2 g hg).2
      rw [hc] at h
      injection h with h
      simp at h; omega
  refine ⟨v2, v3, bR3.far (p := ⟨G, 4, none⟩) (by simp; omega) _, ?_, own_setCell A3 (by have := own_blk_ne A3 bG3 (by decide); exact this) _, own_setCell h3 n3 _, e3, hb3.setCell (by show w.heap.size ≤ G; omega) _⟩
  exact bG3.set_ 4 v3

theorem knots_zero (X Y : Nat → Nat) : knots X Y 0 = [] := rfl
theorem half_ge {a b hh : Nat} (h : hh = ((a - b) + (b - a)) / 2) (hle : b ≤ a) (ha : a ≤ 32768) : wrap64 ((wrap64 ((a : Int) - (b : Int))).tdiv 2) = (hh : Int) := by
  have e : wrap64 ((a : Int) - (b : Int)) = ((a - b : Nat) : Int) := by rw [w64_id (by omega) (by omega)]; omega
  have e2 : (((a - b : Nat) : Int)).tdiv 2 = (hh : Int) := by rw [Int.tdiv_eq_ediv_of_nonneg (by omega)]; omega
  rw [e, e2, w64_id (by omega) (by omega)]
theorem h63_of {n : Nat} (h : n ≤ 99) : n + 1 + 1 ≤ maxLen := by simp only [maxLen]; omega
theorem hby_of {n : Nat} (h : n ≤ 99) : (n + 1 + 1) * 16 ≤ 140737488355328 := by omega
theorem base_alloc {w : World} {b : Nat} (h : b ≤ w.heap.size) (o : Obj) : b ≤ (w.alloc o).heap.size := by simp; omega
theorem base_set_alloc {w : World} {b G : Nat} (h : b ≤ G) (h' : G < w.heap.size) (p : Addr) (u : Value) (o : Obj) : b ≤ ((w.setCell p u).alloc o).heap.size := by simp; omega
theorem own_sep {a b : Option Nat} (h : ∀ g, a = some g → b ≠ some g) : b = none ∨ b ≠ a := by
  cases hb : b with
  | none => exact .inl rfl
  | some g => exact .inr (fun e => h g e.symm (by rw [hb]))
set_option maxRecDepth 100000 in
set_option maxHeartbeats 4000000 in
theorem rcircle (nm : ByteArray) (S P pr : Nat) (w : World) (hn : nm.size ≤ maxLen) (hnm : nameB nm.data.toList = true) (h2 : 2 ≤ P) (h99 : P ≤ 99) (hPS : P ≤ S) (hS : S ≤ 32768) (hpr : pr ≤ 1073741824) :
    Calls Try.prog 18 #[.string nm, .int .i64 (S : Int), .int .i64 (pr : Int), .int .i64 (P : Int)] w (CircPost w nm S P pr) := by
  have S0 := Lib.hid fun w => risname nm hn w
  go_enter Try.func18, Try.ntmps18
  go_upto_region 7 with (first | (go_at_call 31; (with_reducible refine (S0.out _).mono ?_); rintro e w' ⟨rfl, rfl⟩))
  have H2 := Lib.hid h2
  have H99 := Lib.hid h99
  have HPS := Lib.hid hPS
  have HS := Lib.hid hS
  have hP1 : (1 : Int) ≤ (P : Int) := by omega
  clear h2 h99 hPS hS hpr hnm hn S0
  have HM0 : RMem w ((w.alloc (Obj.cells #[.string { data := #[] }, .int .i64 0, .int .i64 0, .slice none 0 0, .slice none 0 0] 25)).alloc (Obj.cells #[.string nm, .int .i64 (S : Int), .int .i64 (pr : Int), .slice none 0 0, .slice none 0 0] 25)) nm S P pr (w.heap.size + 1) 0 := by
    refine ⟨.slice none 0 0, .slice none 0 0, (Blk.new w _ _).alloc _, blk_at (by simp) _ _, World.ownsRow_nil _ _ _ _, World.ownsRow_nil _ _ _ _, by simp [Value.ownBlock], ?_⟩
    (repeat' (first | assumption | exact Below.refl _ _ | exact Below.size (by assumption) | (refine Below.setCell ?_ ?_ _) | (refine Below.alloc ?_ ?_ _) | (refine Below.drew ?_) | (refine below_drewN ?_ _) | (refine Below.trans ?_ (Below.mono ‹Below _ _ _› ?_)) | omega | (simp; done) | (simp; omega) | (simp at *; omega)))
  have hsz : w.heap.size + 1 < ((w.alloc (Obj.cells #[.string { data := #[] }, .int .i64 0, .int .i64 0, .slice none 0 0, .slice none 0 0] 25)).alloc (Obj.cells #[.string nm, .int .i64 (S : Int), .int .i64 (pr : Int), .slice none 0 0, .slice none 0 0] 25)).heap.size := by simp
  obtain ⟨G, hG⟩ : ∃ G, G = w.heap.size + 1 := ⟨_, rfl⟩
  rw [← hG] at HM0 hsz
  rw [← hG]
  have HG := Lib.hid hG
  generalize hw0 : ((w.alloc (Obj.cells #[.string { data := #[] }, .int .i64 0, .int .i64 0, .slice none 0 0, .slice none 0 0] 25)).alloc (Obj.cells #[.string nm, .int .i64 (S : Int), .int .i64 (pr : Int), .slice none 0 0, .slice none 0 0] 25)) = wo at HM0 hsz ⊢
  have HMM := Lib.hid HM0
  clear HM0 hw0 hG
  obtain ⟨i0, hi0, hz0, hz1', hz2⟩ := info_parts info39
  obtain ⟨vA, vC, bR, bG, oA, oC, hne, hbw⟩ := HMM.out
  have c3 := bG.cell 3
  have c4 := bG.cell 4
  have f3 := bG.frozen 3
  simp only [List.getElem?_toArray, List.getElem?_cons_succ, List.getElem?_cons_zero] at c3 c4
  have lG := bG.lt
  have hGw := HG.out
  have HGW : Hid (w.heap.size + 1 ≤ G) := by show w.heap.size + 1 ≤ G; omega
  have HBASE : Hid (w.heap.size + 1 ≤ wo.heap.size) := by show w.heap.size + 1 ≤ _; omega
  clear hGw
  have HNE := Lib.hid hne
  have HI0 := Lib.hid hi0
  have HZ0 := Lib.hid hz0
  have HZ1 := Lib.hid hz1'
  have HZ2 := Lib.hid hz2
  have HBR := Lib.hid bR
  have HBG := Lib.hid bG
  have HOA := Lib.hid oA
  have HOC := Lib.hid oC
  have HBW := Lib.hid hbw
  clear hne hi0 hz0 hz1' hz2 bR bG oA oC hbw

  have DK0 : Hid (knots (Circ.cd S P) (Circ.ca S P) (0 + 1) = knots (Circ.cd S P) (Circ.ca S P) 0 ++ [.int .i64 0, .int .i64 0]) := by show _ = _; rw [knots_succ]; simp [Circ.cd, Circ.ca]
  have DC0 : Hid (knots (Circ.cd S P) (Circ.ck S P) (0 + 1) = knots (Circ.cd S P) (Circ.ck S P) 0 ++ [.int .i64 0, .int .i64 0]) := by show _ = _; rw [knots_succ]; simp [Circ.cd, Circ.ck]
  go_upto_region 8 with (first
    | (at_builtin; refine wpList_append_own_at _ rfl (.tmp 60) (.tmp 62) 23 rfl (w.heap.size + 1) 39 i0 (.agg #[.int .i64 0, .int .i64 0]) 2 16 Try.underlying23 HI0.out HZ0.out HZ1.out HZ2.out rfl (by decide) vA (0) (knots (Circ.cd S P) (Circ.ca S P) (0)) rfl (HOA.out.alloc _) _ 1 1 [.int .i64 0, .int .i64 0] rfl rfl (World.news_of_block (cs := #[.int .i64 0, .int .i64 0]) (t := 39) (fr := (0, 0)) (heap_alloc_new _ _)) (by simp [Value.oneCell']) (by simp only [maxLen]; omega) (by omega) (by have := HBASE.out; simp; omega) ?_
       intro v2 w2 hown2 hgrow2 hnil2 hat2
       obtain ⟨g2, cap2, rfl, hb2, hl2⟩ := hown2.form (by omega)
       have bG2 := (HBG.out.alloc _).grown hgrow2 (own_blk_ne HOA.out HBG.out (by decide)).symm
       have d3 := bG2.cell 3
       have d4 := bG2.cell 4
       simp only [List.getElem?_toArray, List.getElem?_cons_succ, List.getElem?_cons_zero] at d3 d4
       have h3 := bG2.frozen 3
       have h4 := bG2.frozen 4
       have lG2 := bG2.lt
       have oC2 := (HOC.out.alloc _).kept hgrow2 (own_sep HNE.out)
       have nC2 := own_blk_ne oC2 bG2 (by decide)
       have HB2 := Lib.hid bG2
       have HOC2 := Lib.hid oC2
       have HNC2 := Lib.hid nC2
       have HOWN2 := Lib.hid hown2
       have HGROW2 := Lib.hid hgrow2
       have HAT2 := Lib.hid hat2
       clear bG2 oC2 nC2 hown2 hgrow2 hnil2 hat2))
  go_wp2_with (first
    | (at_builtin; refine wpList_append_own_at _ rfl (.tmp 66) (.tmp 68) 23 rfl (w.heap.size + 1) 39 i0 (.agg #[.int .i64 0, .int .i64 0]) 2 16 Try.underlying23 HI0.out HZ0.out HZ1.out HZ2.out rfl (by decide) vC (0) (knots (Circ.cd S P) (Circ.ck S P) (0)) rfl ((own_setCell (p := ⟨G, 3, none⟩) HOC2.out HNC2.out _).alloc _) _ 1 1 [.int .i64 0, .int .i64 0] rfl rfl (World.news_of_block (cs := #[.int .i64 0, .int .i64 0]) (t := 39) (fr := (0, 0)) (heap_alloc_set _ _ _ _)) (by simp [Value.oneCell']) (by simp only [maxLen]; omega) (by omega) (by have := HGW.out; simp; omega) ?_
       intro v3 w3 hown3 hgrow3 hnil3 hat3
       obtain ⟨g3, cap3, rfl, hb3, hl3⟩ := hown3.form (by omega)
       have bG3 := ((HB2.out.set_ 3 (.slice (some ⟨g2, 0, none⟩) (0 + 1) cap2)).alloc _).grown hgrow3 HNC2.out.symm
       have d5 := bG3.cell 4
       simp only [List.setIfInBounds_toArray, List.set_cons_succ, List.set_cons_zero, List.getElem?_toArray, List.getElem?_cons_succ, List.getElem?_cons_zero] at d5
       have h5 := bG3.frozen 4
       have HOWN3 := Lib.hid hown3
       have HGROW3 := Lib.hid hgrow3
       have HAT3 := Lib.hid hat3
       clear bG3 hown3 hgrow3 hnil3 hat3))
  have HMS : Hid (RMem w (w3.setCell ⟨G, 4, none⟩ (.slice (some ⟨g3, 0, none⟩) (0 + 1) cap3)) nm S P pr G (0 + 1)) := rmem_step HGW.out HBR.out HBG.out HOA.out HOC.out HNE.out HBW.out (by rw [DK0.out]; exact HOWN2.out) HGROW2.out HAT2.out (by rw [DC0.out]; exact HOWN3.out) HGROW3.out HAT3.out
  clear c3 c4 f3 lG d3 d4 h3 h4 lG2 d5 h5 hsz
  go_loopw [11, 12, 13, 14, 15, 16] (fun v11 v12 v13 v14 v15 v16 wr => ∃ n i : Nat, Hid (n ≤ P) ∧ Hid (i = n + 1) ∧ v11 = .int .i64 (Circ.cd S P n : Nat) ∧ v12 = .int .i64 (Circ.cw S P n : Nat) ∧ v13 = .int .i64 (Circ.ca S P n : Nat) ∧ v14 = .int .i64 (Circ.cp S P n : Nat) ∧ v15 = .int .i64 (Circ.ck S P n : Nat) ∧ v16 = .int .i64 i ∧ Hid (RMem w wr nm S P pr G (n + 1))) (fun _ _ _ _ _ v16 _ => P + 1 - (intOf v16).toNat)
  case atStart => exact ⟨0, 1, Nat.zero_le _, rfl, by simp [Circ.cd], by simp [Circ.cw, Circ.cd, Num.isq], rfl, rfl, rfl, rfl, HMS⟩
  case round =>
    obtain ⟨n, i, hn, hi, rfl, rfl, rfl, rfl, rfl, rfl, hm⟩ := hrel
    clear HBR HBG HOA HOC HBW HNE HI0 HZ0 HZ1 HZ2 HBASE HB2 HOC2 HNC2 HOWN2 HGROW2 HAT2 HOWN3 HGROW3 HAT3 HMM HMS DK0 DC0
    by_cases hlt : n < P
    · skip
      have HLT : Hid (n + 1 ≤ P) := hlt
      have h2 := H2.out
      have hPS := HPS.out
      have hS := HS.out
      have h99 := H99.out
      have hi' := hi.out
      have b1 := Circ.cd_le h2 hPS (by omega : n ≤ P)
      have b2 := Circ.cd_le h2 hPS (by omega : n + 1 ≤ P)
      have b3 := Circ.cw_le h2 hPS (by omega : n ≤ P)
      have b4 := Circ.cw_le h2 hPS (by omega : n + 1 ≤ P)
      have b5 := Circ.cd_step h2 hPS n
      have b6 := Circ.side_le h2 hPS (by omega : n + 1 ≤ P)
      have b7 := Circ.cp_le h2 hPS (by omega : n ≤ P)
      have b8 := Circ.cp_le h2 hPS (by omega : n + 1 ≤ P)
      have b9 := Circ.ca_bound h2 hPS hS (by omega : n + 1 ≤ P)
      have b10 := Circ.cubes h2 hPS hS (by omega : n + 1 ≤ P)
      have b11 := Circ.ck_new h2 hPS hS (by omega : n + 1 ≤ P)
      have b12 := Circ.ck_bound h2 hPS hS (by omega : n ≤ P)
      have b13 : n * (4 * S + 2) ≤ 99 * (4 * S + 2) := Nat.mul_le_mul_right _ (by omega)
      have b14 : (n + 1) * (4 * S + 2) ≤ 99 * (4 * S + 2) := Nat.mul_le_mul_right _ (by omega)
      have b15 := Circ.cs_le h2 hPS (by omega : n + 1 ≤ P)
      have b16 := Circ.ch_le h2 hPS (by omega : n + 1 ≤ P)
      have b17 : (Circ.cw S P n + Circ.cw S P (n + 1)) * Circ.cs S P n ≤ (2 * S) * S := Nat.mul_le_mul (by omega) b15
      have b18 : S * S ≤ 32768 * 32768 := Nat.mul_le_mul hS hS
      have b19 : S * i ≤ 32768 * 100 := Nat.mul_le_mul hS (by omega)
      have b20 : (2 * S) * S ≤ 65536 * 32768 := Nat.mul_le_mul (by omega) hS
      have d1d : Circ.cd S P (n + 1) = S * i / P := by rw [hi']; rfl
      have w1d : Circ.cw S P (n + 1) = Num.isq (4 * Circ.cd S P (n + 1) * (S - Circ.cd S P (n + 1))) := rfl
      have std : Circ.cs S P n = Circ.cd S P (n + 1) - Circ.cd S P n := rfl
      have hhd : Circ.ch S P n = ((Circ.cw S P (n + 1) - Circ.cw S P n) + (Circ.cw S P n - Circ.cw S P (n + 1))) / 2 := rfl
      have sdd : Circ.side S P n = csq (Circ.cs S P n * Circ.cs S P n + Circ.ch S P n * Circ.ch S P n) := rfl
      have a1d : Circ.ca S P (n + 1) = Circ.ca S P n + (Circ.cw S P n + Circ.cw S P (n + 1)) * Circ.cs S P n / 2 := rfl
      have p1d : Circ.cp S P (n + 1) = Circ.cp S P n + 2 * Circ.side S P n := rfl
      have k1d : Circ.ck S P (n + 1) = max (Circ.ck S P n) (Num.isq (Circ.ca S P (n + 1) * Circ.ca S P (n + 1) * (5 * Circ.ca S P (n + 1)) / (2 * Circ.cp S P (n + 1)))) := rfl
      have DK : Hid (knots (Circ.cd S P) (Circ.ca S P) (n + 1 + 1) = knots (Circ.cd S P) (Circ.ca S P) (n + 1) ++ [.int .i64 (Circ.cd S P (n + 1) : Nat), .int .i64 (Circ.ca S P (n + 1) : Nat)]) := knots_succ _ _ _
      have DC : Hid (knots (Circ.cd S P) (Circ.ck S P) (n + 1 + 1) = knots (Circ.cd S P) (Circ.ck S P) (n + 1) ++ [.int .i64 (Circ.cd S P (n + 1) : Nat), .int .i64 (Circ.ck S P (n + 1) : Nat)]) := knots_succ _ _ _
      have DW : Hid (Circ.cw S P (n + 1) = Circ.cw S P (n + 1)) := rfl
      obtain ⟨d0, e_d0⟩ : ∃ z, z = Circ.cd S P n := ⟨_, rfl⟩
      obtain ⟨d1, e_d1⟩ : ∃ z, z = Circ.cd S P (n + 1) := ⟨_, rfl⟩
      obtain ⟨wd0, e_wd0⟩ : ∃ z, z = Circ.cw S P n := ⟨_, rfl⟩
      obtain ⟨wd1, e_wd1⟩ : ∃ z, z = Circ.cw S P (n + 1) := ⟨_, rfl⟩
      obtain ⟨st, e_st⟩ : ∃ z, z = Circ.cs S P n := ⟨_, rfl⟩
      obtain ⟨hh, e_hh⟩ : ∃ z, z = Circ.ch S P n := ⟨_, rfl⟩
      obtain ⟨sd, e_sd⟩ : ∃ z, z = Circ.side S P n := ⟨_, rfl⟩
      obtain ⟨a0, e_a0⟩ : ∃ z, z = Circ.ca S P n := ⟨_, rfl⟩
      obtain ⟨a1, e_a1⟩ : ∃ z, z = Circ.ca S P (n + 1) := ⟨_, rfl⟩
      obtain ⟨p0, e_p0⟩ : ∃ z, z = Circ.cp S P n := ⟨_, rfl⟩
      obtain ⟨p1, e_p1⟩ : ∃ z, z = Circ.cp S P (n + 1) := ⟨_, rfl⟩
      obtain ⟨k0, e_k0⟩ : ∃ z, z = Circ.ck S P n := ⟨_, rfl⟩
      obtain ⟨k1, e_k1⟩ : ∃ z, z = Circ.ck S P (n + 1) := ⟨_, rfl⟩
      rw [← e_d0, ← e_wd0, ← e_a0, ← e_p0, ← e_k0]
      simp only [← e_d0, ← e_d1, ← e_wd0, ← e_wd1, ← e_st, ← e_hh, ← e_sd, ← e_a0, ← e_a1, ← e_p0, ← e_p1, ← e_k0, ← e_k1] at b1 b2 b3 b4 b5 b6 b7 b8 b9 b10 b11 b12 b15 b16 b17 d1d w1d std hhd sdd a1d p1d k1d
      have ED0 := Lib.hid e_d0
      have ED1 := Lib.hid e_d1
      have EW1 := Lib.hid e_wd1
      have EA1 := Lib.hid e_a1
      have EP1 := Lib.hid e_p1
      have EK1 := Lib.hid e_k1
      clear e_d0 e_d1 e_wd0 e_wd1 e_st e_hh e_sd e_a0 e_a1 e_p0 e_p1 e_k0 e_k1
      have B1 : d1 ≤ 32768 := Nat.le_trans b2 hS
      have B2 : wd0 ≤ 32768 := Nat.le_trans b3 hS
      have B3 : wd1 ≤ 32768 := Nat.le_trans b4 hS
      have B4 : st ≤ 32768 := Nat.le_trans b15 hS
      have B5 : hh ≤ 32768 := Nat.le_trans b16 hS
      have B6 : sd ≤ 65537 := by clear b1 b2 b3 b4 b5 b7 b8 b9 b10 b11 b12 b13 b14 b15 b16 b17 b18 b19 b20 d1d w1d std hhd sdd a1d p1d k1d; omega
      have B7 : p0 ≤ 99 * 131074 := by clear b1 b2 b3 b4 b5 b6 b8 b9 b10 b11 b12 b14 b15 b16 b17 b18 b19 b20 d1d w1d std hhd sdd a1d p1d k1d; omega
      have B8 : 1 ≤ p1 := by clear b1 b2 b3 b4 b6 b7 b9 b10 b11 b12 b13 b14 b15 b16 b17 b18 b19 b20 d1d w1d std hhd sdd a1d p1d k1d; omega
      have B9 : a1 ≤ 1073741824 := b9.1
      have B10 : a1 * a1 ≤ 1152921504606846976 := b10.1
      have B11 : a1 * a1 * (5 * a1) ≤ 1152921504606846976 * 5368709120 := b10.2.2
      have B13 : (wd0 + wd1) * st ≤ 2147483648 := Nat.le_trans b17 b20
      have B14 : S * i ≤ 3276800 := b19
      have B15 : d0 ≤ d1 := Nat.le_of_lt b5
      have B0 : d1 ≤ S := b2
      have HHD := Lib.hid hhd
      have K1D := Lib.hid k1d
      clear k1d b1 b2 b3 b4 b5 b6 b7 b8 b9 b10 b11 b12 b13 b14 b15 b16 b17 b18 b19 b20 hhd
      obtain ⟨t1, e_t1⟩ : ∃ z, z = S * i := ⟨_, rfl⟩
      rw [← e_t1] at d1d B14
      have x1 : IntKind.i64.wrap ((S : Int) * (i : Int)) = (t1 : Int) := mul_w e_t1 (Nat.le_trans B14 (by decide))
      have x2 : (t1 : Int) / (P : Int) = (d1 : Int) := by rw [d1d]; rfl
      have x2' : IntKind.i64.wrap (d1 : Int) = (d1 : Int) := nat_i (Nat.le_trans B1 (by decide))
      obtain ⟨f1, e_f1⟩ : ∃ z, z = 4 * d1 := ⟨_, rfl⟩
      obtain ⟨g1, e_g1⟩ : ∃ z, z = S - d1 := ⟨_, rfl⟩
      obtain ⟨s2, e_s2⟩ : ∃ z, z = 2 * sd := ⟨_, rfl⟩
      obtain ⟨a5, e_a5⟩ : ∃ z, z = 5 * a1 := ⟨_, rfl⟩
      obtain ⟨p2, e_p2⟩ : ∃ z, z = 2 * p1 := ⟨_, rfl⟩
      rw [← e_f1, ← e_g1] at w1d
      have C1 : f1 ≤ 131072 := by rw [e_f1]; exact Nat.mul_le_mul_left 4 B1
      have C2 : g1 ≤ 32768 := by rw [e_g1]; exact Nat.le_trans (Nat.sub_le _ _) hS
      have C3 : s2 ≤ 131074 := by rw [e_s2]; exact Nat.mul_le_mul_left 2 B6
      have C4 : a5 ≤ 5368709120 := by rw [e_a5]; exact Nat.mul_le_mul_left 5 B9
      have C5 : p1 ≤ 13107400 := by rw [p1d, ← e_s2]; exact Nat.add_le_add B7 C3
      have C6 : p2 ≤ 26214800 := by rw [e_p2]; exact Nat.mul_le_mul_left 2 C5
      have C7 : 0 < p2 := by rw [e_p2]; exact Nat.mul_pos (by decide) B8
      have x3 : IntKind.i64.wrap (4 * (d1 : Int)) = (f1 : Int) := mul4_w e_f1 (Nat.le_trans C1 (by decide))
      have x4 : IntKind.i64.wrap ((S : Int) - (d1 : Int)) = (g1 : Int) := sub_w e_g1 B0 (Nat.le_trans hS (by decide))
      have fg : f1 * g1 ≤ 131072 * 32768 := Nat.mul_le_mul C1 C2
      obtain ⟨fv, e_fv⟩ : ∃ z, z = f1 * g1 := ⟨_, rfl⟩
      rw [← e_fv] at w1d fg
      have x4b : IntKind.i64.wrap ((f1 : Int) * (g1 : Int)) = (fv : Int) := mul_w e_fv (Nat.le_trans fg (by decide))
      have T1 := rsqrt fv (Nat.le_trans fg (by decide))
      rw [← w1d] at T1
      have T1 := Lib.hid T1
      have x5 : IntKind.i64.wrap ((d1 : Int) - (d0 : Int)) = (st : Int) := sub_w std B15 (Nat.le_trans B1 (by decide))
      obtain ⟨ss, e_ss⟩ : ∃ z, z = st * st := ⟨_, rfl⟩
      obtain ⟨hq, e_hq⟩ : ∃ z, z = hh * hh := ⟨_, rfl⟩
      obtain ⟨nn, e_nn⟩ : ∃ z, z = ss + hq := ⟨_, rfl⟩
      have D1 : ss ≤ 32768 * 32768 := by rw [e_ss]; exact Nat.mul_le_mul B4 B4
      have D2 : hq ≤ 32768 * 32768 := by rw [e_hq]; exact Nat.mul_le_mul B5 B5
      have D3 : nn ≤ 2147483648 := by rw [e_nn]; exact Nat.le_trans (Nat.add_le_add D1 D2) (by decide)
      have x6 : IntKind.i64.wrap ((st : Int) * (st : Int)) = (ss : Int) := mul_w e_ss (Nat.le_trans D1 (by decide))
      have x7 : IntKind.i64.wrap ((hh : Int) * (hh : Int)) = (hq : Int) := mul_w e_hq (Nat.le_trans D2 (by decide))
      have x8 : IntKind.i64.wrap ((ss : Int) + (hq : Int)) = (nn : Int) := add_w e_nn (Nat.le_trans D3 (by decide))
      rw [← e_ss, ← e_hq, ← e_nn] at sdd
      obtain ⟨r, e_r⟩ : ∃ z, z = Num.isq nn := ⟨_, rfl⟩
      have T2 := rsqrt nn (Nat.le_trans D3 (by decide))
      rw [← e_r] at T2
      have T2 := Lib.hid T2
      have D4 : r < 65536 := by rw [e_r]; exact Num.isq_lt (Nat.lt_of_le_of_lt D3 (by decide))
      obtain ⟨rq, e_rq⟩ : ∃ z, z = r * r := ⟨_, rfl⟩
      have D5 : rq ≤ 65536 * 65536 := by rw [e_rq]; exact Nat.mul_le_mul (Nat.le_of_lt D4) (Nat.le_of_lt D4)
      have x8b : IntKind.i64.wrap ((r : Int) * (r : Int)) = (rq : Int) := mul_w e_rq (Nat.le_trans D5 (by decide))
      have SD : Hid ((rq < nn ∧ sd = r + 1) ∨ (¬ rq < nn ∧ sd = r)) := by
        show _ ∨ _
        rw [sdd]; unfold csq; rw [← e_r, ← e_rq]
        by_cases hc : rq < nn
        · rw [if_pos hc]; exact .inl ⟨hc, rfl⟩
        · rw [if_neg hc]; exact .inr ⟨hc, rfl⟩
      have HB6 := Lib.hid B6
      have HB23 := Lib.hid (And.intro B2 B3)
      obtain ⟨u1, e_u1⟩ : ∃ z, z = wd0 + wd1 := ⟨_, rfl⟩
      rw [← e_u1] at a1d B13
      obtain ⟨u2, e_u2⟩ : ∃ z, z = u1 * st := ⟨_, rfl⟩
      rw [← e_u2] at a1d B13
      have C8 : u1 ≤ 65536 := by rw [e_u1]; exact Nat.add_le_add B2 B3
      have x9 : IntKind.i64.wrap ((wd0 : Int) + (wd1 : Int)) = (u1 : Int) := add_w e_u1 (Nat.le_trans C8 (by decide))
      have x10 : IntKind.i64.wrap ((u1 : Int) * (st : Int)) = (u2 : Int) := mul_w e_u2 (Nat.le_trans B13 (by decide))
      obtain ⟨u3, e_u3⟩ : ∃ z, z = u2 / 2 := ⟨_, rfl⟩
      rw [← e_u3] at a1d
      have x10b : (u2 : Int) / 2 = (u3 : Int) := by rw [e_u3]; rfl
      have x10c : wrap64 (u3 : Int) = (u3 : Int) := nat_w (by rw [e_u3]; exact Nat.le_trans (Nat.div_le_self _ _) (Nat.le_trans B13 (by decide)))
      have x11 : IntKind.i64.wrap ((a0 : Int) + (u3 : Int)) = (a1 : Int) := add_w a1d (Nat.le_trans B9 (by decide))
      have x12 : IntKind.i64.wrap (2 * (sd : Int)) = (s2 : Int) := mul2_w e_s2 (Nat.le_trans C3 (by decide))
      have x13 : IntKind.i64.wrap ((p0 : Int) + (s2 : Int)) = (p1 : Int) := add_w (by rw [e_s2]; exact p1d) (Nat.le_trans C5 (by decide))
      rw [← e_a5] at B11
      have x14 : IntKind.i64.wrap (5 * (a1 : Int)) = (a5 : Int) := mul5_w e_a5 (Nat.le_trans C4 (by decide))
      have x15 : IntKind.i64.wrap (2 * (p1 : Int)) = (p2 : Int) := mul2_w e_p2 (Nat.le_trans C6 (by decide))
      have e_ac : a1 * a1 * a5 = a5 * a1 * a1 := by rw [Nat.mul_comm (a1 * a1) a5, Nat.mul_assoc]
      have D6 : a5 * a1 ≤ 5368709120 * 1073741824 := Nat.mul_le_mul C4 B9
      obtain ⟨a55, e_a55⟩ : ∃ z, z = a5 * a1 := ⟨_, rfl⟩
      rw [← e_a55] at e_ac D6
      have x16 : IntKind.i64.wrap ((a5 : Int) * (a1 : Int)) = (a55 : Int) := mul_w e_a55 (Nat.le_trans D6 (by decide))
      obtain ⟨kk, e_kk⟩ : ∃ z, z = Num.isq (a1 * a1 * a5 / p2) := ⟨_, rfl⟩
      have T3 := r28root a55 a1 p2 (a1 * a1 * a5 / p2) (Nat.lt_of_le_of_lt D6 (by decide)) (Nat.lt_of_le_of_lt B9 (by decide)) (Nat.lt_of_le_of_lt C6 (by decide)) C7 (by rw [e_ac]) (Nat.lt_of_le_of_lt (Nat.div_le_self _ _) (Nat.lt_of_le_of_lt B11 (by decide)))
      rw [← e_kk] at T3
      have T3 := Lib.hid T3
      have k1d := K1D.out
      rw [← e_a5, ← e_p2, ← e_kk] at k1d
      have K1F := Lib.hid k1d
      clear k1d
      obtain ⟨j, e_j⟩ : ∃ j, j = i + 1 := ⟨_, rfl⟩
      have x19 : IntKind.i64.wrap ((i : Int) + 1) = (j : Int) := add1_w e_j (by rw [e_j, hi']; exact Nat.le_trans (Nat.succ_le_succ hlt) (Nat.le_trans (Nat.succ_le_succ h99) (by decide)))
      have EJ := Lib.hid e_j
      have x17 : decide ((i : Int) ≤ (P : Int)) = true := decide_eq_true (Int.ofNat_le.2 (by rw [hi']; exact hlt))
      have x18 : decide (i ≤ P) = true := decide_eq_true (by rw [hi']; exact hlt)
      clear d1d w1d std sdd a1d p1d h2 hPS hS h99 hi' hlt e_t1 e_u1 e_u2 e_u3 e_kk e_f1 e_g1 e_s2 e_a5 e_p2 e_fv e_ss e_hq e_nn e_r e_rq e_ac e_a55 e_j B1 B2 B3 B4 B5 B6 B7 B8 B9 B10 B11 B13 B14 B15 fg B0 C1 C2 C3 C4 C5 C6 C7 C8 D1 D2 D3 D4 D5 D6
      go_upto_if 94 with (first | (go_at_call 42; (with_reducible refine (T1.out _).mono ?_); rintro e w4 ⟨rfl, hb4⟩; obtain ⟨hc4, hf4⟩ := bcell hb4; have hz4 := hb4.size; (try simp at hz4); (try simp only [heap_drew, World.heap_drewN] at hz4); (try simp only [heap_drew, World.heap_drewN] at hc4); (try simp only [heap_drew, World.heap_drewN] at hf4); (try have hs1 := Nat.lt_of_succ_le hz4); (try have hs2 := Nat.lt_of_succ_lt hs1); (try have y0 : w.heap.size < w4.heap.size := by omega); (try have y1 : w.heap.size + 1 < w4.heap.size := by omega); (try have y2 : w.heap.size + 2 < w4.heap.size := by omega)))
      go_cut [19] from 71 to 162 (fun v wx => v = .int .i64 (hh : Int) ∧ wx = w4)
      case first =>
        by_cases hw : wd1 < wd0
        · have y1 : decide (wd1 < wd0) = true := decide_eq_true hw
          have y2 : wrap64 ((wrap64 ((wd0 : Int) - (wd1 : Int))).tdiv 2) = (hh : Int) := half_ge (by rw [HHD.out, Nat.add_comm]) (Nat.le_of_lt hw) HB23.out.1
          clear hw
          simp only [y1]
          go_wp2_with fail
          go_meet
          case rel => exact ⟨congrArg _ y2, rfl⟩
        · have y1 : decide (wd1 < wd0) = false := decide_eq_false hw
          have y2 : wrap64 ((wrap64 ((wd1 : Int) - (wd0 : Int))).tdiv 2) = (hh : Int) := half_ge HHD.out (Nat.le_of_not_lt hw) HB23.out.2
          have HY2 := Lib.hid y2
          clear hw y2
          simp only [y1]
          go_wp2_with fail
          go_meet
          case rel => exact ⟨congrArg _ HY2.out, rfl⟩
      case rest =>
        obtain ⟨rfl, rfl⟩ := hcut
        go_upto_if 116 with (first | (go_at_call 42; (with_reducible refine (T2.out _).mono ?_); rintro e w5 ⟨rfl, hb5⟩; obtain ⟨hc5, hf5⟩ := bcell hb5; have hz5 := hb5.size; (try simp at hz5); (try simp only [heap_drew, World.heap_drewN] at hz5); (try simp only [heap_drew, World.heap_drewN] at hc5); (try simp only [heap_drew, World.heap_drewN] at hf5); (try have hs1 := Nat.lt_of_succ_le hz5); (try have hs2 := Nat.lt_of_succ_lt hs1); (try have y0 : w.heap.size < w5.heap.size := by omega); (try have y1 : w.heap.size + 1 < w5.heap.size := by omega); (try have y2 : w.heap.size + 2 < w5.heap.size := by omega)))
        go_cut [21] from 71 to 162 (fun v wx => v = .int .i64 (sd : Int) ∧ wx = w5)
        case first =>
          rcases SD.out with ⟨hc, hs⟩ | ⟨hc, hs⟩
          · have y1 : decide (rq < nn) = true := decide_eq_true hc
            have y2 : IntKind.i64.wrap ((r : Int) + 1) = (sd : Int) := add1_w hs (Nat.le_trans HB6.out (by decide))
            clear hc hs
            simp only [y1]
            go_wp2_with fail
            go_meet
            case rel => exact ⟨rfl, rfl⟩
          · have y1 : decide (rq < nn) = false := decide_eq_false hc
            have HS' := Lib.hid hs
            clear hc hs
            simp only [y1]
            go_wp2_with fail
            go_meet
            case rel => exact ⟨by rw [HS'.out], rfl⟩
        case rest =>
          obtain ⟨rfl, rfl⟩ := hcut
          go_upto_if 143 with (first | (go_at_call 43; (with_reducible refine (T3.out _).mono ?_); rintro e w6 ⟨rfl, hb6⟩; obtain ⟨hc6, hf6⟩ := bcell hb6; have hz6 := hb6.size; (try simp at hz6); (try simp only [heap_drew, World.heap_drewN] at hz6); (try simp only [heap_drew, World.heap_drewN] at hc6); (try simp only [heap_drew, World.heap_drewN] at hf6); (try have hs1 := Nat.lt_of_succ_le hz6); (try have hs2 := Nat.lt_of_succ_lt hs1); (try have y0 : w.heap.size < w6.heap.size := by omega); (try have y1 : w.heap.size + 1 < w6.heap.size := by omega); (try have y2 : w.heap.size + 2 < w6.heap.size := by omega)))
          go_cut [15] from 71 to 162 (fun v wx => v = .int .i64 (k1 : Int) ∧ wx = w6)
          case first =>
            by_cases hk : k0 < kk
            · have y1 : decide (k0 < kk) = true := decide_eq_true hk
              have HK : Hid (k1 = kk) := by show k1 = kk; rw [K1F.out]; exact Nat.max_eq_right (Nat.le_of_lt hk)
              clear hk
              simp only [y1]
              go_wp2_with fail
              go_meet
              case rel => exact ⟨by rw [HK.out], rfl⟩
            · have y1 : decide (k0 < kk) = false := decide_eq_false hk
              have HK : Hid (k1 = k0) := by show k1 = k0; rw [K1F.out]; exact Nat.max_eq_left (Nat.le_of_not_lt hk)
              clear hk
              simp only [y1]
              go_wp2_with fail
              go_meet
              case rel => exact ⟨by rw [HK.out], rfl⟩
          case rest =>
            obtain ⟨rfl, rfl⟩ := hcut
            clear x1 x2 x2' x3 x4 x4b x5 x6 x7 x8 x8b x9 x10 x10b x10c x11 x12 x13 x14 x15 x16 T1 T2 T3 SD K1F HHD HB6 HB23
            go_upto_region 27 with fail
            have hbk : Below wr.heap.size wr wc := by (repeat' (first | assumption | exact Below.refl _ _ | exact Below.size (by assumption) | (refine Below.setCell ?_ ?_ _) | (refine Below.alloc ?_ ?_ _) | (refine Below.drew ?_) | (refine below_drewN ?_ _) | (refine Below.trans ?_ (Below.mono ‹Below _ _ _› ?_)) | omega | (simp; done) | (simp; omega) | (simp at *; omega)))
            obtain ⟨i0, hi0, hz0, hz1', hz2⟩ := info_parts info39
            obtain ⟨vA, vC, bR0, bG0, oA0, oC0, hne, hbw0⟩ := hm.out
            have bR := bR0.below hbk bR0.lt
            have bG := bG0.below hbk bG0.lt
            have oA := own_below oA0 hbk
            have oC := own_below oC0 hbk
            have hbw := hbw0.trans (hbk.mono hbw0.size)
            have c3 := bG.cell 3
            have c4 := bG.cell 4
            have f3 := bG.frozen 3
            simp only [List.getElem?_toArray, List.getElem?_cons_succ, List.getElem?_cons_zero] at c3 c4
            have lG := bG.lt
            have hGw := HGW.out
            have hn99 : n ≤ 99 := by have := hn.out; have := H99.out; omega
            have HN99 := Lib.hid hn99
            have HBASE : Hid (w.heap.size + 1 ≤ wc.heap.size) := by show w.heap.size + 1 ≤ _; omega
            have HNE := Lib.hid hne
            have HI0 := Lib.hid hi0
            have HZ0 := Lib.hid hz0
            have HZ1 := Lib.hid hz1'
            have HZ2 := Lib.hid hz2
            have HBR := Lib.hid bR
            have HBG := Lib.hid bG
            have HOA := Lib.hid oA
            have HOC := Lib.hid oC
            have HBW := Lib.hid hbw
            clear hn99 hGw hne hi0 hz0 hz1' hz2 bR0 bG0 oA0 oC0 hbw0 bR bG oA oC hbw hbk hc4 hf4 hc5 hf5 hc6 hf6 hb4 hb5 hb6
            go_upto_region 28 with (first
              | (at_builtin; refine wpList_append_own_at _ ?g1 (.tmp 148) (.tmp 152) 23 ?g2 (w.heap.size + 1) 39 i0 (.agg #[.int .i64 0, .int .i64 0]) 2 16 Try.underlying23 HI0.out HZ0.out HZ1.out HZ2.out ?g3 ?g4 vA (n + 1) (knots (Circ.cd S P) (Circ.ca S P) (n + 1)) ?g5 ?g6 ⟨wc.heap.size, 0, none⟩ 1 1 [.int .i64 (d1 : Int), .int .i64 (a1 : Int)] ?g7 ?g8 ?g9 ?g10 (h63_of HN99.out) (hby_of HN99.out) (base_alloc HBASE.out _) ?g14
                 case g1 => exact rfl
                 case g2 => exact rfl
                 case g3 => exact rfl
                 case g4 => decide
                 case g5 => exact rfl
                 case g6 => exact (HOA.out.alloc _)
                 case g7 => exact rfl
                 case g8 => exact rfl
                 case g9 => exact World.news_of_block (cs := #[.int .i64 (d1 : Int), .int .i64 (a1 : Int)]) (t := 39) (fr := (0, 0)) (heap_alloc_new _ _)
                 case g10 => simp [Value.oneCell']
                 intro v2 w2 hown2 hgrow2 hnil2 hat2
                 obtain ⟨g2, cap2, rfl, hb2, hl2⟩ := hown2.form (Nat.succ_pos _)
                 have bG2 := (HBG.out.alloc _).grown hgrow2 (own_blk_ne HOA.out HBG.out (by decide)).symm
                 have d3 := bG2.cell 3
                 have d4 := bG2.cell 4
                 simp only [List.getElem?_toArray, List.getElem?_cons_succ, List.getElem?_cons_zero] at d3 d4
                 have h3 := bG2.frozen 3
                 have h4 := bG2.frozen 4
                 have lG2 := bG2.lt
                 have oC2 := (HOC.out.alloc _).kept hgrow2 (own_sep HNE.out)
                 have nC2 := own_blk_ne oC2 bG2 (by decide)
                 have HB2 := Lib.hid bG2
                 have HOC2 := Lib.hid oC2
                 have HNC2 := Lib.hid nC2
                 have HOWN2 := Lib.hid hown2
                 have HGROW2 := Lib.hid hgrow2
                 have HAT2 := Lib.hid hat2
                 clear bG2 oC2 nC2 hown2 hgrow2 hnil2 hat2))
            go_wp2_with (first
              | (at_builtin; refine wpList_append_own_at _ ?k1 (.tmp 156) (.tmp 160) 23 ?k2 (w.heap.size + 1) 39 i0 (.agg #[.int .i64 0, .int .i64 0]) 2 16 Try.underlying23 HI0.out HZ0.out HZ1.out HZ2.out ?k3 ?k4 vC (n + 1) (knots (Circ.cd S P) (Circ.ck S P) (n + 1)) ?k5 ?k6 ⟨w2.heap.size, 0, none⟩ 1 1 [.int .i64 (d1 : Int), .int .i64 (k1 : Int)] ?k7 ?k8 ?k9 ?k10 (h63_of HN99.out) (hby_of HN99.out) (base_set_alloc HGW.out lG2 _ _ _) ?k14
                 case k1 => exact rfl
                 case k2 => exact rfl
                 case k3 => exact rfl
                 case k4 => decide
                 case k5 => exact rfl
                 case k6 => exact ((own_setCell (p := ⟨G, 3, none⟩) HOC2.out HNC2.out _).alloc _)
                 case k7 => exact rfl
                 case k8 => exact rfl
                 case k9 => exact World.news_of_block (cs := #[.int .i64 (d1 : Int), .int .i64 (k1 : Int)]) (t := 39) (fr := (0, 0)) (heap_alloc_set _ _ _ _)
                 case k10 => simp [Value.oneCell']
                 intro v3 w3 hown3 hgrow3 hnil3 hat3
                 obtain ⟨g3, cap3, rfl, hb3, hl3⟩ := hown3.form (Nat.succ_pos _)
                 have bG3 := ((HB2.out.set_ 3 (.slice (some ⟨g2, 0, none⟩) (n + 1 + 1) cap2)).alloc _).grown hgrow3 HNC2.out.symm
                 have d5 := bG3.cell 4
                 simp only [List.setIfInBounds_toArray, List.set_cons_succ, List.set_cons_zero, List.getElem?_toArray, List.getElem?_cons_succ, List.getElem?_cons_zero] at d5
                 have h5 := bG3.frozen 4
                 have HOWN3 := Lib.hid hown3
                 have HGROW3 := Lib.hid hgrow3
                 have HAT3 := Lib.hid hat3
                 clear bG3 hown3 hgrow3 hnil3 hat3))
            go_roundw
            case rel =>
              refine ⟨n + 1, j, HLT, ?_, ?_, ?_, ?_, ?_, ?_, ?_, ?_⟩
              · exact EJ.out.trans (congrArg Nat.succ hi.out)
              · rw [ED1.out]
              · rw [EW1.out]
              · rw [EA1.out]
              · rw [EP1.out]
              · rw [EK1.out]
              · rfl
              · exact rmem_step HGW.out HBR.out HBG.out HOA.out HOC.out HNE.out HBW.out (by rw [DK.out, ← ED1.out, ← EA1.out]; exact HOWN2.out) HGROW2.out HAT2.out (by rw [DC.out, ← ED1.out, ← EK1.out]; exact HOWN3.out) HGROW3.out HAT3.out
            case measure => exact circ_measure EJ.out hi.out HLT.out
    · obtain rfl : n = P := by have := hn.out; omega
      obtain ⟨vA, vC, bR, bG, oA, oC, hne, hbw⟩ := hm.out
      obtain ⟨ga, capA, rfl, hba, hla⟩ := oA.form (by omega)
      obtain ⟨gc, capC, rfl, hbc, hlc⟩ := oC.form (by omega)
      have hi' := hi.out
      have x17 : decide ((i : Int) ≤ (n : Int)) = false := decide_eq_false (by omega)
      have x18 : decide (i ≤ n) = false := decide_eq_false (by omega)
      have c0 := bG.cell 0
      have c1 := bG.cell 1
      have c2 := bG.cell 2
      have c3 := bG.cell 3
      have c4 := bG.cell 4
      have r0 := bR.cell 0
      have r1 := bR.cell 1
      have r2 := bR.cell 2
      have r3 := bR.cell 3
      have r4 := bR.cell 4
      simp only [List.getElem?_toArray, List.getElem?_cons_succ, List.getElem?_cons_zero] at c0 c1 c2 c3 c4 r0 r1 r2 r3 r4
      have f0 := bR.frozen 0
      have f1 := bR.frozen 1
      have f2 := bR.frozen 2
      have f3 := bR.frozen 3
      have f4 := bR.frozen 4
      have hlR := bR.lt
      have hGR : ¬ G = w.heap.size := by have := HG.out; omega
      have HGR := Lib.hid hGR
      have HOA := Lib.hid oA
      have HOC := Lib.hid oC
      have HBW := Lib.hid hbw
      clear bR bG oA oC hbw hi' hlt hne hGR
      generalize ((Circ.cd S n n : Nat) : Int) = q1
      generalize ((Circ.cw S n n : Nat) : Int) = q2
      generalize ((Circ.ca S n n : Nat) : Int) = q3
      generalize ((Circ.cp S n n : Nat) : Int) = q4
      generalize ((Circ.ck S n n : Nat) : Int) = q5
      go_upto_region 29 with fail
      repeat (first | go_values | go_skip | go_guarded | go_step | go_upon)
      have lA := HOA.out.lt ga rfl
      have lC := HOC.out.lt gc rfl
      refine bodyPost_ret (v := .tuple #[.agg #[.string nm, .int .i64 (S : Int), .int .i64 (pr : Int), .slice (some ⟨ga, 0, none⟩) (n + 1) capA, .slice (some ⟨gc, 0, none⟩) (n + 1) capC], .int .i64 0]) (by simp [results, Try.results18, go_sem, *]) rfl ⟨ga, capA, gc, capC, rfl, by omega, by omega, tab_of_own (base := w.heap.size + 1) (t := 39) (cap := capA) ?_, tab_of_own (base := w.heap.size + 1) (t := 39) (cap := capC) ?_, ?_⟩
      · exact own_set5 HOA.out (by simp only [Value.ownBlock, ne_eq, Option.some.injEq]; omega) _ _ _ _ _
      · exact own_set5 HOC.out (by simp only [Value.ownBlock, ne_eq, Option.some.injEq]; omega) _ _ _ _ _
      · exact below_set5 HBW.out (Nat.le_refl _) _ _ _ _ _
end Go.Proofs.Ytchapkjloicfnaa

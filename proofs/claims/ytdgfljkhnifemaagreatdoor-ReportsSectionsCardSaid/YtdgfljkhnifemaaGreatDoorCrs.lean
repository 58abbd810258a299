/- courseOf of package reports. -/
import Derived.Test.YtdgfljkhnifemaaGreatDoorCrsC
import Derived.Test.YtdgfljkhnifemaaGreatDoorMgD
namespace Go.Proofs.YtdgfljkhnifemaaGreatDoor
open Go.RowKit
set_option linter.unusedVariables false
set_option linter.unusedSimpArgs false

/-- Below B nothing has turned but block g. -/
structure Exc (B g : Nat) (w w' : World) : Prop where
  os : w'.os = w.os
  tape : w'.tape = w.tape
  output : w'.output = w.output
  size : w.heap.size ≤ w'.heap.size
  block : ∀ k, k < B → k ≠ g → w'.heap[k]? = w.heap[k]?
theorem Exc.refl (B g : Nat) (w : World) : Exc B g w w := ⟨rfl, rfl, rfl, Nat.le_refl _, fun _ _ _ => rfl⟩
theorem Exc.call {B g : Nat} {w wr w' : World} (h : Exc B g w wr) (hB : B ≤ w.heap.size) (hb : Below wr.heap.size wr w') : Exc B g w w' :=
  ⟨hb.os.trans h.os, hb.tape.trans h.tape, hb.output.trans h.output, Nat.le_trans h.size hb.size, fun k hk hg => (hb.block k (by have := h.size; omega)).trans (h.block k hk hg)⟩
theorem Exc.alloc {B g : Nat} {w wr : World} (h : Exc B g w wr) (hB : B ≤ w.heap.size) (o : Obj) : Exc B g w (wr.alloc o) := h.call hB ((Below.refl _ wr).alloc (Nat.le_refl _) o)
theorem Exc.grown {B g : Nat} {w wr w' : World} {row : Option Nat} (h : Exc B g w wr) (hB : B ≤ w.heap.size) (hg : wr.grownBy w' row) (hr : ∀ k, row = some k → B ≤ k) : Exc B g w w' :=
  ⟨hg.os.trans h.os, hg.tape.trans h.tape, hg.output.trans h.output, Nat.le_trans h.size hg.size, fun k hk hne => (hg.block k (by have := h.size; omega) (fun e => by have := hr k e.symm; omega)).trans (h.block k hk hne)⟩
theorem Exc.set {B g : Nat} {w wr : World} (h : Exc B g w wr) (i : Nat) (u : Value) : Exc B g w (wr.setCell ⟨g, i, none⟩ u) := by
  have k0 := (Below.refl 0 wr).setCell (p := ⟨g, i, none⟩) (Nat.zero_le _) u
  exact ⟨k0.os.trans h.os, k0.tape.trans h.tape, k0.output.trans h.output, Nat.le_trans h.size k0.size, fun k hk hne => (Below.heap_setCell wr ⟨g, i, none⟩ u k hne).trans (h.block k hk hne)⟩
theorem Exc.blk {B g k : Nat} {w wr : World} {t : TypeId} {cs : Array Value} (h : Exc B g w wr) (hk : Blk w k t cs) (hB : k < B) (hne : k ≠ g) : Blk wr k t cs := (h.block k hB hne).trans hk
theorem Exc.low {n0 B g : Nat} {w w0 wr : World} (h0 : Below n0 w w0) (h : Exc B g w0 wr) (hB : n0 ≤ B) (hg : n0 ≤ g) : Below n0 w wr :=
  ⟨h.os.trans h0.os, h.tape.trans h0.tape, h.output.trans h0.output, Nat.le_trans h0.size h.size, fun k hk => (h.block k (by omega) (by omega)).trans (h0.block k hk)⟩
theorem grown_set (w : World) (g i : Nat) (u : Value) : w.grownBy (w.setCell ⟨g, i, none⟩ u) (some g) := by
  have k0 := (Below.refl 0 w).setCell (p := ⟨g, i, none⟩) (Nat.zero_le _) u
  exact ⟨k0.os, k0.tape, k0.output, k0.size, fun k hk hne => Below.heap_setCell w ⟨g, i, none⟩ u k (fun e => hne (by rw [e]))⟩
/-- A row of ints that lies from block B on. -/
def IRow (B : Nat) (wr : World) (u : Value) (N : Nat) (C : Nat → Int) : Prop := wr.ownsRow B 3 1 u N (ints C N)
theorem IRow.nil (B : Nat) (w : World) (C : Nat → Int) : IRow B w (.slice none 0 0) 0 C := World.ownsRow_nil _ _ _ _
theorem IRow.call {B : Nat} {wr w' : World} {u : Value} {N : Nat} {C : Nat → Int} (h : IRow B wr u N C) (hb : Below wr.heap.size wr w') : IRow B w' u N C := own_below h hb
theorem IRow.form {B : Nat} {wr : World} {u : Value} {N : Nat} {C : Nat → Int} (h : IRow B wr u N C) : ∃ A cap, u = .slice A N cap := by
  rcases h.2 with ⟨hv, h0⟩ | ⟨g, cap, cur, hv, _, _, hnc, _⟩
  · exact ⟨none, 0, by rw [hv, h0]⟩
  · exact ⟨_, cap, hv⟩
theorem IRow.pos {B : Nat} {wr : World} {u : Value} {N : Nat} {C : Nat → Int} (h : IRow B wr u N C) (hN : 1 ≤ N) : ∃ g cap, u = .slice (some ⟨g, 0, none⟩) N cap ∧ B ≤ g ∧ g < wr.heap.size ∧ ∀ k, k < N → wr.cell? ⟨g, k, none⟩ = some (.int .i64 (C k)) := by
  rcases h.2 with ⟨hv, h0⟩ | ⟨g, cap, cur, hv, _, _, hnc, _⟩
  · omega
  · subst hv
    refine ⟨g, cap, rfl, (h.lt g rfl).1, (h.lt g rfl).2, fun k hk => ?_⟩
    exact (World.ownsRow.cellAt h k (by omega)).trans (ints_at C hk)
theorem IRow.int {B : Nat} {wr : World} {A : Option Addr} {N cap : Nat} {C : Nat → Int} (h : IRow B wr (.slice A N cap) N C) (h2 : N ≤ 2000) : IntIn wr A N C := by
  rcases Nat.eq_zero_or_pos N with h0 | h0
  · exact ⟨by omega, .inl h0⟩
  · obtain ⟨g, cap', hv, _, hlt, hc⟩ := h.pos h0
    injection hv with hA _ _
    subst hA
    exact ⟨by omega, .inr ⟨g, 0, rfl, hlt, fun k hk => by rw [Nat.zero_add]; exact hc k hk⟩⟩
theorem IRow.set {B : Nat} {wr : World} {u : Value} {N g i : Nat} {C : Nat → Int} {t : TypeId} {cs : Array Value} (h : IRow B wr u N C) (hg : Blk wr g t cs) (hne : 3 ≠ t) (x : Value) : IRow B (wr.setCell ⟨g, i, none⟩ x) u N C :=
  h.kept (grown_set wr g i x) (.inr (own_blk_ne h hg hne))
theorem IRow.ne {B : Nat} {wr : World} {u : Value} {N g : Nat} {C : Nat → Int} {t : TypeId} {cs : Array Value} (h : IRow B wr u N C) (hg : Blk wr g t cs) (hne : 3 ≠ t) : u.ownBlock ≠ some g := own_blk_ne h hg hne
theorem IRow.low {B : Nat} {wr : World} {u : Value} {N : Nat} {C : Nat → Int} (h : IRow B wr u N C) : ∀ k, u.ownBlock = some k → B ≤ k := fun k e => (h.lt k e).1
/-- The course that courseOf hands back. -/
noncomputable def ndC (D : Nds) (n : Nat) (N : Nat → ByteArray) (k : Nat) : Int := (ndI D n N k : Int)
noncomputable def lkC (K : Lks) (m : Nat) (N : Nat → ByteArray) (k : Nat) : Int := (lkI K m N k : Int)
def CrsPost (D : Nds) (n : Nat) (K : Lks) (m : Nat) (N : Nat → ByteArray) (p q : Nat) (w : World) (e : Ending) (w' : World) : Prop :=
  Below w.heap.size w w' ∧ ((crsE D n K m N p q ≠ 0 ∧ e = .returned (.tuple #[.pointer none, .int .i64 (crsE D n K m N p q)])) ∨
   (crsE D n K m N p q = 0 ∧ ∃ g A1 c1 A2 c2, e = .returned (.tuple #[.pointer (some ⟨g, 0, none⟩), .int .i64 0]) ∧ Blk w' g 75 #[.slice A1 p c1, .slice A2 (p - 1) c2] ∧ IntIn w' A1 p (ndC D n N) ∧ IntIn w' A2 (p - 1) (lkC K m N)))
theorem crs_err {D : Nds} {n : Nat} {K : Lks} {m : Nat} {N : Nat → ByteArray} {p q : Nat} {w w' : World} {er : Int} (hb : Below w.heap.size w w') (h : crsE D n K m N p q = er) (hne : er ≠ 0) : CrsPost D n K m N p q w (.returned (.tuple #[.pointer none, .int .i64 er])) w' :=
  ⟨hb, .inl ⟨by rw [h]; exact hne, by rw [h]⟩⟩
set_option maxRecDepth 100000 in
set_option maxHeartbeats 16000000 in
theorem tcrs (NA LA SA VA : Option Addr) (n nc m lc p pc q qc : Nat) (D : Nds) (K : Lks) (N : Nat → ByteArray) (h20 : n ≤ 2000) (m20 : m ≤ 2000) (p20 : p ≤ 2000) (hpc : p ≤ pc) (w : World) (hD : NdIn w NA n D) (hK : LkIn w LA m K) (hN : StrIn w SA p N) :
    Calls Tryz.prog 30 #[.agg #[.slice NA n nc, .slice LA m lc], .slice SA p pc, .slice VA q qc] w (CrsPost D n K m N p q w) := by
  have HD := Lib.hid hD
  have HK := Lib.hid hK
  have HN := Lib.hid hN
  have H20 := Lib.hid h20
  have M20 := Lib.hid m20
  have HPC := Lib.hid hpc
  by_cases g1 : q = n
  case neg =>
    have HR := Lib.hid (crsE_size (D := D) (n := n) (K := K) (m := m) (N := N) (p := p) g1)
    have t1 : ((q : Int) == (n : Int)) = false := by simp; omega
    have t1' : (q == n) = false := by simp; omega
    have t1n : ((q : Int) != (n : Int)) = true := by simp; omega
    have t1n' : (q != n) = true := by simp; omega
    clear hD hK hN h20 m20 p20 hpc g1
    go_enter Tryz.func30, Tryz.ntmps30
    go_wp2_with fail
    go_ret2
    exact crs_err (by (repeat' (first | assumption | exact Below.refl _ _ | exact Below.size (by assumption) | (refine Below.setCell ?_ ?_ _) | (refine Below.alloc ?_ ?_ _) | (refine Below.drew ?_) | (refine below_drewN ?_ _) | (refine Below.trans ?_ (Below.mono ‹Below _ _ _› ?_)) | omega | (simp; done) | (simp; omega) | (simp at *; omega)))) HR.out (by decide)
  have t1 : ((q : Int) == (n : Int)) = true := by simp; omega
  have t1' : (q == n) = true := by simp; omega
  have t1n : ((q : Int) != (n : Int)) = false := by simp; omega
  have t1n' : (q != n) = false := by simp; omega
  by_cases g2 : p = 0
  case pos =>
    have HR := Lib.hid (crsE_empty (D := D) (n := n) (K := K) (m := m) (N := N) (p := p) g1 g2)
    have t2 : ((p : Int) == 0) = true := by simp; omega
    have t2' : (p == 0) = true := by simp; omega
    clear hD hK hN h20 m20 p20 hpc g1 g2
    go_enter Tryz.func30, Tryz.ntmps30
    go_wp2_with fail
    go_ret2
    exact crs_err (by (repeat' (first | assumption | exact Below.refl _ _ | exact Below.size (by assumption) | (refine Below.setCell ?_ ?_ _) | (refine Below.alloc ?_ ?_ _) | (refine Below.drew ?_) | (refine below_drewN ?_ _) | (refine Below.trans ?_ (Below.mono ‹Below _ _ _› ?_)) | omega | (simp; done) | (simp; omega) | (simp at *; omega)))) HR.out (by decide)
  have t2 : ((p : Int) == 0) = false := by simp; omega
  have t2' : (p == 0) = false := by simp; omega
  by_cases g3 : 300 < p
  case pos =>
    have HR := Lib.hid (crsE_full (D := D) (n := n) (K := K) (m := m) (N := N) (p := p) g1 g3)
    have t3 : decide ((300 : Int) < (p : Int)) = true := decide_eq_true (by omega)
    have t3' : decide (300 < p) = true := decide_eq_true (by omega)
    clear hD hK hN h20 m20 p20 hpc g1 g2 g3
    go_enter Tryz.func30, Tryz.ntmps30
    go_wp2_with fail
    go_ret2
    exact crs_err (by (repeat' (first | assumption | exact Below.refl _ _ | exact Below.size (by assumption) | (refine Below.setCell ?_ ?_ _) | (refine Below.alloc ?_ ?_ _) | (refine Below.drew ?_) | (refine below_drewN ?_ _) | (refine Below.trans ?_ (Below.mono ‹Below _ _ _› ?_)) | omega | (simp; done) | (simp; omega) | (simp at *; omega)))) HR.out (by decide)
  have t3 : decide ((300 : Int) < (p : Int)) = false := decide_eq_false (by omega)
  have t3' : decide (300 < p) = false := decide_eq_false (by omega)
  have GQ := Lib.hid g1
  have HP : Hid (1 ≤ p ∧ p ≤ 300) := by show 1 ≤ p ∧ p ≤ 300; omega
  obtain ⟨SI0, si0, sz0, sz1, sz2⟩ := info_parts1 infoI
  have SI1 := Lib.hid si0
  have SI2 := Lib.hid sz0
  have SI3 := Lib.hid sz1
  have SI4 := Lib.hid sz2
  clear si0 sz0 sz1 sz2
  have SF := Lib.hid fun s g w hD hy hg => find_cnode NA n nc D s g w h20 hD hy hg
  have SL := Lib.hid fun (q : Nat) (t : ByteArray) (a0 a1 a2 : Nat) (w : World) (hip : q < p) (hK : LkIn w LA m K) (hN : StrIn w SA p N) y0 y1 y2 hg => find_clink LA m lc K SA p pc N q t a0 a1 a2 w m20 hip hK hN y0 y1 y2 hg
  clear hD hK hN h20 m20 p20 hpc g1 g2 g3
  go_enter Tryz.func30, Tryz.ntmps30
  go_wp2_with fail
  have HW0 : Hid (Below w.heap.size w (((w.alloc (Obj.cells #[.slice NA n nc, .slice LA m lc] 25)).alloc (Obj.cells #[.slice SA p pc] 27)).alloc (Obj.cells #[.slice none 0 0, .slice none 0 0] 75))) := by show Below _ _ _; (repeat' (first | assumption | exact Below.refl _ _ | exact Below.size (by assumption) | (refine Below.setCell ?_ ?_ _) | (refine Below.alloc ?_ ?_ _) | (refine Below.drew ?_) | (refine below_drewN ?_ _) | (refine Below.trans ?_ (Below.mono ‹Below _ _ _› ?_)) | omega | (simp; done) | (simp; omega) | (simp at *; omega)))
  have HBN : Hid (Blk (((w.alloc (Obj.cells #[.slice NA n nc, .slice LA m lc] 25)).alloc (Obj.cells #[.slice SA p pc] 27)).alloc (Obj.cells #[.slice none 0 0, .slice none 0 0] 75)) w.heap.size 25 #[.slice NA n nc, .slice LA m lc]) := ((Blk.new _ _ _).alloc _).alloc _
  have HBS : Hid (Blk (((w.alloc (Obj.cells #[.slice NA n nc, .slice LA m lc] 25)).alloc (Obj.cells #[.slice SA p pc] 27)).alloc (Obj.cells #[.slice none 0 0, .slice none 0 0] 75)) (w.heap.size + 1) 27 #[.slice SA p pc]) := (by show Blk _ _ _ _; have := (Blk.new (w.alloc (Obj.cells #[.slice NA n nc, .slice LA m lc] 25)) 27 #[.slice SA p pc]).alloc (Obj.cells #[.slice none 0 0, .slice none 0 0] 75); simpa using this)
  have HBG : Hid (Blk (((w.alloc (Obj.cells #[.slice NA n nc, .slice LA m lc] 25)).alloc (Obj.cells #[.slice SA p pc] 27)).alloc (Obj.cells #[.slice none 0 0, .slice none 0 0] 75)) (w.heap.size + 1 + 1) 75 #[.slice none 0 0, .slice none 0 0]) := (by show Blk _ _ _ _; have := Blk.new ((w.alloc (Obj.cells #[.slice NA n nc, .slice LA m lc] 25)).alloc (Obj.cells #[.slice SA p pc] 27)) 75 #[.slice none 0 0, .slice none 0 0]; simpa using this)
  generalize ((w.alloc (Obj.cells #[.slice NA n nc, .slice LA m lc] 25)).alloc (Obj.cells #[.slice SA p pc] 27)).alloc (Obj.cells #[.slice none 0 0, .slice none 0 0] 75) = w0 at HW0 HBN HBS HBG ⊢
  obtain ⟨a, ha⟩ : ∃ a, a = w.heap.size := ⟨_, rfl⟩
  obtain ⟨b', hb'⟩ : ∃ a, a = w.heap.size + 1 := ⟨_, rfl⟩
  obtain ⟨g, hg⟩ : ∃ a, a = w.heap.size + 1 + 1 := ⟨_, rfl⟩
  have HG0 : Hid (w.heap.size ≤ g ∧ a ≠ g ∧ b' ≠ g) := by show _ ∧ _; omega
  rw [← hg, ← hb', ← ha]
  rw [← ha] at HBN
  rw [← hb'] at HBS
  rw [← hg] at HBG
  clear ha hb' hg
  go_loopw [34] (fun u wr => ∃ (i : Nat) (v : Value), Hid (i ≤ p) ∧ u = .int .i64 i ∧ Hid (∀ j, j < i → fnd D.Nm n (N j) ≠ -1) ∧ Hid (IRow w0.heap.size wr v i (ndC D n N)) ∧ Hid (Exc w0.heap.size g w0 wr) ∧ Hid (Blk wr g 75 #[v, .slice none 0 0])) (fun u _ => p - (RowKit.intOf u).toNat)
  case atStart => exact ⟨0, _, Nat.zero_le _, rfl, fun j hj => absurd hj (Nat.not_lt_zero _), IRow.nil _ _ _, Exc.refl _ _ _, HBG.out⟩
  case round =>
    obtain ⟨i, v, Hi, rfl, HF, HQ, HX, HC⟩ := hrel
    have HWr : Hid (Below w.heap.size w wr) := Exc.low HW0.out HX.out HW0.out.size HG0.out.1
    by_cases hlt : i < p
    · have T0 : decide ((i : Int) < (p : Int)) = true := by simp <;> omega
      have T0' : decide (i < p) = true := decide_eq_true hlt
      obtain ⟨i', hi'⟩ : ∃ z, z = i + 1 := ⟨_, rfl⟩
      have x0 : IntKind.i64.wrap ((i : Int) + 1) = (i' : Int) := by have := HP.out.2; rw [IntKind.wrap_i64]; omega
      have HI' : Hid (i' ≤ p) := by show i' ≤ p; omega
      have HMS : Hid (p - (RowKit.intOf (Value.int .i64 (i' : Int))).toNat < p - (RowKit.intOf (Value.int .i64 (i : Int))).toNat) := by show _ < _; simp [RowKit.intOf]; omega
      have k0 : (0 : Int) ≤ (i : Int) := by omega
      have k1 : (i : Int) < (p : Int) := by omega
      obtain ⟨b, off, rfl, hb, c0⟩ := (HN.out.below (Nat.le_refl _) HWr.out).at hlt
      have HLT := Lib.hid hlt
      have hal : Below wr.heap.size wr (wr.alloc (Obj.cells #[.string (N i)] 9)) := (Below.refl _ wr).alloc (Nat.le_refl _) _
      have hnb := (Blk.new wr 9 #[.string (N i)])
      have SF1 := Lib.hid fun w hD hy hg => SF.out (N i) wr.heap.size w hD hy hg
      have HY : Hid ((wr.alloc (Obj.cells #[.string (N i)] 9)).cell? ⟨wr.heap.size, 0, none⟩ = some (.string (N i)) ∧ wr.heap.size < (wr.alloc (Obj.cells #[.string (N i)] 9)).heap.size) := ⟨hnb.cell 0, hnb.lt⟩
      have HD1 := Lib.hid (HD.out.below (Nat.le_refl _) (below_step HWr.out hal))
      have HX1 := Lib.hid (HX.out.alloc (Nat.le_refl _) (Obj.cells #[.string (N i)] 9))
      have HQ1 := Lib.hid (HQ.out.call hal)
      have HC1 := Lib.hid (HC.out.call hal)
      have HW1 := Lib.hid (below_step HWr.out hal)
      have HRE : Hid (fnd D.Nm n (N i) = -1 → crsE D n K m N p q = 9) := fun h => crsE_name GQ.out HP.out.1 HP.out.2 ⟨i, HLT.out, h⟩
      have HST : Hid (fnd D.Nm n (N i) ≠ -1 → (∀ j, j < i' → fnd D.Nm n (N j) ≠ -1) ∧ fnd D.Nm n (N i) = ndC D n N i) := fun h => by
        refine ⟨fun j hj => ?_, (ndI_at h).2.1⟩
        rcases Nat.lt_or_ge j i with g | g
        · exact HF.out j g
        · have : j = i := by omega
          rw [this]; exact h
      have HII : Hid (i + 1 = i') := hi'.symm
      have HI2 : Hid (i ≤ 2000) := by show i ≤ 2000; have := HP.out.2; omega
      by_cases g4 : fnd D.Nm n (N i) = -1
      case pos =>
        have HR := Lib.hid (HRE.out g4)
        rw [g4] at SF1
        clear hi' hlt hal hnb g4
        go_upto_region 11 with fail
        generalize wr.alloc (Obj.cells #[.string (N i)] 9) = w1 at HX1 HQ1 HC1 HW1 HD1 HY ⊢
        generalize wr.heap.size = G1 at HY SF1 ⊢
        have d0 := (HX1.out.blk HBN.out HBN.out.lt HG0.out.2.1).cell 0
        simp only [List.getElem?_toArray, List.getElem?_cons_succ, List.getElem?_cons_zero] at d0
        go_wp2_with (first
          | (go_at_call 52
             with_reducible refine (SF1.out _ HD1.out HY.out.1 HY.out.2).mono ?_
             rintro e w2 ⟨rfl, hb2⟩
             have HW2 := Lib.hid (below_step HW1.out hb2)
             clear hb2))
        go_ret2
        exact crs_err HW2.out HR.out (by decide)
      obtain ⟨HF', hnd⟩ := HST.out g4
      have HF2 := Lib.hid HF'
      rw [hnd] at SF1
      have T9 : decide (ndC D n N i < 0) = false := decide_eq_false (by unfold ndC; omega)
      clear hi' hlt hal hnb g4 hnd HF' HRE HST
      generalize hz : ndC D n N i = z at SF1 T9
      obtain ⟨A8, cap8, rfl⟩ := HQ.out.form
      go_upto_region 11 with fail
      generalize wr.alloc (Obj.cells #[.string (N i)] 9) = w1 at HX1 HQ1 HC1 HW1 HD1 HY ⊢
      generalize wr.heap.size = G1 at HY SF1 ⊢
      have d0 := (HX1.out.blk HBN.out HBN.out.lt HG0.out.2.1).cell 0
      simp only [List.getElem?_toArray, List.getElem?_cons_succ, List.getElem?_cons_zero] at d0
      go_wp2_with (first
        | (go_at_call 52
           with_reducible refine (SF1.out _ HD1.out HY.out.1 HY.out.2).mono ?_
           rintro e w2 ⟨rfl, hb2⟩
           have HX2 := Lib.hid (HX1.out.call (Nat.le_refl _) hb2)
           have HQ2 := Lib.hid (HQ1.out.call hb2)
           have HC2 := Lib.hid (HC1.out.call hb2)
           have y0 := HC2.out.cell 0
           simp only [List.getElem?_toArray, List.getElem?_cons_succ, List.getElem?_cons_zero] at y0
           clear hb2)
        | (at_builtin; refine wpList_append_own_at _ ?na (.tmp 48) (.tmp 50) 73 ?nb (w0.heap.size) 3 SI0 (.int .i64 0) 1 8 Tryz.underlying73 SI1.out SI2.out SI3.out SI4.out ?nc ?nd (.slice A8 i cap8) (i) (ints (ndC D n N) i) ?ne (World.ownsRow.alloc HQ2.out _) (⟨w2.heap.size, 0, none⟩) (1) (1) ([.int .i64 z]) ?ng (rfl) (World.news_of_block (cs := #[.int .i64 z]) (t := 3) (fr := (0, 0)) (heap_alloc_new _ _)) ((by simp [Value.oneCell'])) (h63_o HI2.out) (hby_i HI2.out) (Nat.le_trans HX2.out.size (by simp)) ?nh
           case na => exact rfl
           case nb => exact rfl
           case nc => exact rfl
           case nd => decide
           case ne => exact rfl
           case ng => exact rfl
           intro v2 w7 hown2 hgrow2 hnil2 hat2
           have HQ7 : Hid (IRow w0.heap.size w7 v2 (i + 1) (ndC D n N)) := by show World.ownsRow _ _ _ _ _ _ _; rw [ints_succ, hz]; exact hown2
           have HC7 : Hid (Blk w7 g 75 #[.slice A8 i cap8, .slice none 0 0]) := (HC2.out.alloc _).grown hgrow2 (fun e => (HQ2.out.ne HC2.out (by decide)) e.symm)
           have HX7 : Hid (Exc w0.heap.size g w0 w7) := (HX2.out.alloc (Nat.le_refl _) _).grown (Nat.le_refl _) hgrow2 HQ2.out.low
           obtain ⟨g9, cap9, rfl, -⟩ := HQ7.out.pos (by omega)
           have y1 := HC7.out.cell 0
           have y2 := HC7.out.frozen 0
           simp only [List.getElem?_toArray, List.getElem?_cons_succ, List.getElem?_cons_zero] at y1
           clear hown2 hgrow2 hnil2 hat2))
      go_roundw
      case rel => exact ⟨i', _, HI', rfl, HF2, by rw [← HII.out]; exact (HQ7.out.set HC7.out (by decide) _), HX7.out.set _ _, HC7.out.set_ 0 _⟩
      case measure => exact HMS.out
    · have T0 : decide ((i : Int) < (p : Int)) = false := by simp <;> omega
      have T0' : decide (i < p) = false := decide_eq_false hlt
      have hin : i = p := by have := Hi.out; omega
      have HBNl := Lib.hid (HX.out.blk HBN.out HBN.out.lt HG0.out.2.1)
      have HBSl := Lib.hid (HX.out.blk HBS.out HBS.out.lt HG0.out.2.2)
      have d2 := HBSl.out.cell 0
      simp only [List.getElem?_toArray, List.getElem?_cons_succ, List.getElem?_cons_zero] at d2
      obtain ⟨b, off, rfl, hb, c0⟩ := (HN.out.below (Nat.le_refl _) HWr.out).at (k := 0) (by have := HP.out.1; omega)
      subst hin
      have e1 : (1 : Int) ≤ (i : Int) := by have := HP.out.1; omega
      have e1' : 1 ≤ i := HP.out.1
      have e2 : (i : Int) ≤ (pc : Int) := by have := HPC.out; omega
      have e2' : i ≤ pc := HPC.out
      obtain ⟨A8, cap8, rfl⟩ := HQ.out.form
      clear hb c0 hlt T0 T0' t2 t2' t3 t3' t1 t1' t1n t1n' SF
      by_cases hp1 : i = 1
      case pos =>
        have HR := Lib.hid (crsE_ok (K := K) (m := m) GQ.out HP.out.1 HP.out.2 HF.out (fun j hj => by omega))
        have er : i - 1 = 0 := by omega
        go_wp2_with fail
        all_goals
          try rw [er]
          go_loopw [58] (fun u wx => u = .int .i64 0 ∧ wx = wr) (fun _ _ => 0)
          case atStart => exact ⟨rfl, rfl⟩
          case round =>
            obtain ⟨rfl, rfl⟩ := hrel
            go_wp2_with fail
            go_ret2
            exact ⟨HWr.out, .inr ⟨HR.out, g, A8, cap8, none, 0, rfl, by rw [er]; exact HC.out, HQ.out.int (by have := HP.out.2; omega), ⟨by omega, .inl er⟩⟩⟩
      have hpc1 : ¬ pc = 1 := by omega
      go_wp2_with fail
      try any_goals (exfalso; omega)
      all_goals
        generalize hr : i - 1 = r
        have HRR := Lib.hid hr
        obtain ⟨wl, hwl⟩ : ∃ wl, wl = wr := ⟨_, rfl⟩
        rw [← hwl] at HQ HX HC HWr HBNl HBSl ⊢
        clear hwl d2 HPC hpc1 e1 e1' e2 e2' hp1 hr
        go_loopw [58] (fun u wr => ∃ (j : Nat) (v : Value), Hid (j ≤ r) ∧ u = .int .i64 j ∧ Hid (∀ k, k < j → btw K m (N k) (N (k + 1)) ≠ -1) ∧ Hid (IRow wl.heap.size wr v j (lkC K m N)) ∧ Hid (Exc wl.heap.size g wl wr) ∧ Hid (Blk wr g 75 #[.slice A8 i cap8, v])) (fun u _ => r - (RowKit.intOf u).toNat)
        case atStart => exact ⟨0, _, Nat.zero_le _, rfl, fun j hj => absurd hj (Nat.not_lt_zero _), IRow.nil _ _ _, Exc.refl _ _ _, HC.out⟩
        case round =>
          obtain ⟨j, v, Hj, rfl, HB, HQ', HX', HC'⟩ := hrel
          have HWj : Hid (Below w.heap.size w wr) := Exc.low HWr.out HX'.out HWr.out.size HG0.out.1
          have hgl := HC.out.lt
          by_cases hlt : j < r
          · have T0 : decide ((j : Int) < (r : Int)) = true := by simp <;> omega
            have T0' : decide (j < r) = true := decide_eq_true hlt
            obtain ⟨i', hi'⟩ : ∃ z, z = j + 1 := ⟨_, rfl⟩
            have x0 : IntKind.i64.wrap ((j : Int) + 1) = (i' : Int) := by have := HRR.out; have := HP.out.2; rw [IntKind.wrap_i64]; omega
            have HI' : Hid (i' ≤ r) := by show i' ≤ r; omega
            have HMS : Hid (r - (RowKit.intOf (Value.int .i64 (i' : Int))).toNat < r - (RowKit.intOf (Value.int .i64 (j : Int))).toNat) := by show _ < _; simp [RowKit.intOf]; omega
            have k0 : (0 : Int) ≤ (j : Int) := by omega
            have k1 : (j : Int) < (r : Int) := by omega
            have HNj := Lib.hid (HN.out.below (Nat.le_refl _) HWj.out)
            obtain ⟨b1, off1, hb1, hb, c0⟩ := HNj.out.at (k := j + 1) (by have := HRR.out; omega)
            injection hb1 with hb1
            injection hb1 with hb1 ho1 _
            subst hb1 ho1
            have c1 : wr.cell? ⟨b, off + 1 + j, none⟩ = some (.string (N (j + 1))) := by rw [Nat.add_assoc, Nat.add_comm 1 j]; exact c0
            have HLT := Lib.hid hlt
            clear c0
            go_upto_region 19 with fail
            have hal : Below wr.heap.size wr ((wr.alloc (Obj.cells #[.int .i64 (j : Int)] 3)).alloc (Obj.cells #[.string (N (j + 1))] 9)) := by (repeat' (first | assumption | exact Below.refl _ _ | exact Below.size (by assumption) | (refine Below.setCell ?_ ?_ _) | (refine Below.alloc ?_ ?_ _) | (refine Below.drew ?_) | (refine below_drewN ?_ _) | (refine Below.trans ?_ (Below.mono ‹Below _ _ _› ?_)) | omega | (simp; done) | (simp; omega) | (simp at *; omega)))
            have HY : Hid (Blk ((wr.alloc (Obj.cells #[.int .i64 (j : Int)] 3)).alloc (Obj.cells #[.string (N (j + 1))] 9)) wr.heap.size 3 #[.int .i64 (j : Int)] ∧ Blk ((wr.alloc (Obj.cells #[.int .i64 (j : Int)] 3)).alloc (Obj.cells #[.string (N (j + 1))] 9)) (wr.heap.size + 1) 9 #[.string (N (j + 1))]) := ⟨(Blk.new _ _ _).alloc _, (by have := Blk.new (wr.alloc (Obj.cells #[.int .i64 (j : Int)] 3)) 9 #[.string (N (j + 1))]; simpa using this)⟩
            have HX1 := Lib.hid (HX'.out.call (Nat.le_refl _) hal)
            have HQ1 := Lib.hid (HQ'.out.call hal)
            have HC1 := Lib.hid (HC'.out.call hal)
            have HW1 := Lib.hid (below_step HWj.out hal)
            have HK1 := Lib.hid (HK.out.below (Nat.le_refl _) HW1.out)
            have HN1 := Lib.hid (HN.out.below (Nat.le_refl _) HW1.out)
            clear hal
            generalize ((wr.alloc (Obj.cells #[.int .i64 (j : Int)] 3)).alloc (Obj.cells #[.string (N (j + 1))] 9)) = w1 at HY HX1 HQ1 HC1 HW1 HK1 HN1 ⊢
            generalize wr.heap.size = G1 at HY ⊢
            have HB1 := Lib.hid (HX1.out.blk HBSl.out HBSl.out.lt HG0.out.2.2)
            have d1 := (HX1.out.blk HBNl.out HBNl.out.lt HG0.out.2.1).cell 1
            simp only [List.getElem?_toArray, List.getElem?_cons_succ, List.getElem?_cons_zero] at d1
            have HRE : Hid (btw K m (N j) (N (j + 1)) = -1 → crsE D n K m N i q = 24) := fun h => crsE_gap GQ.out HP.out.1 HP.out.2 HF.out ⟨j, by have := HLT.out; have := HRR.out; omega, h⟩
            have HST : Hid (btw K m (N j) (N (j + 1)) ≠ -1 → (∀ k, k < i' → btw K m (N k) (N (k + 1)) ≠ -1) ∧ btw K m (N j) (N (j + 1)) = lkC K m N j) := fun h => by
              refine ⟨fun k hk => ?_, (lkI_at h).2.1⟩
              rcases Nat.lt_or_ge k j with g | g
              · exact HB.out k g
              · have : k = j := by omega
                rw [this]; exact h
            have HII : Hid (j + 1 = i') := hi'.symm
            have HI2 : Hid (j ≤ 2000) := by show j ≤ 2000; have := HP.out.2; have := HRR.out; omega
            have SL1 := Lib.hid (SL.out j (N (j + 1)) b' G1 (G1 + 1) w1 (by have := HRR.out; omega) HK1.out HN1.out (HB1.out.cell 0) (HY.out.1.cell 0) (HY.out.2.cell 0) ⟨HB1.out.lt, HY.out.1.lt, HY.out.2.lt⟩)
            by_cases g4 : btw K m (N j) (N (j + 1)) = -1
            case pos =>
              have HR := Lib.hid (HRE.out g4)
              rw [g4] at SL1
              clear hi' hlt g4 HRE HST SL
              go_wp2_with (first
                | (go_at_call 53
                   with_reducible refine SL1.out.mono ?_
                   rintro e w2 ⟨rfl, hb2⟩
                   have HW2 := Lib.hid (below_step HW1.out hb2)
                   clear hb2))
              go_ret2
              exact crs_err HW2.out HR.out (by decide)
            obtain ⟨HF', hnd⟩ := HST.out g4
            have HF2 := Lib.hid HF'
            rw [hnd] at SL1
            have T9 : decide (lkC K m N j < 0) = false := decide_eq_false (by unfold lkC; omega)
            clear hi' hlt g4 hnd HF' HRE HST SL
            generalize hz : lkC K m N j = z at SL1 T9
            obtain ⟨A7, cap7, rfl⟩ := HQ'.out.form
            go_wp2_with (first
              | (go_at_call 53
                 with_reducible refine SL1.out.mono ?_
                 rintro e w2 ⟨rfl, hb2⟩
                 have HX2 := Lib.hid (HX1.out.call (Nat.le_refl _) hb2)
                 have HQ2 := Lib.hid (HQ1.out.call hb2)
                 have HC2 := Lib.hid (HC1.out.call hb2)
                 have y0 := HC2.out.cell 1
                 simp only [List.getElem?_toArray, List.getElem?_cons_succ, List.getElem?_cons_zero] at y0
                 clear hb2)
              | (at_builtin; refine wpList_append_own_at _ ?ma (.tmp 73) (.tmp 75) 73 ?mb (wl.heap.size) 3 SI0 (.int .i64 0) 1 8 Tryz.underlying73 SI1.out SI2.out SI3.out SI4.out ?mc ?md (.slice A7 j cap7) (j) (ints (lkC K m N) j) ?me (World.ownsRow.alloc HQ2.out _) (⟨w2.heap.size, 0, none⟩) (1) (1) ([.int .i64 z]) ?mg (rfl) (World.news_of_block (cs := #[.int .i64 z]) (t := 3) (fr := (0, 0)) (heap_alloc_new _ _)) ((by simp [Value.oneCell'])) (h63_o HI2.out) (hby_i HI2.out) (Nat.le_trans HX2.out.size (by simp)) ?mh
                 case ma => exact rfl
                 case mb => exact rfl
                 case mc => exact rfl
                 case md => decide
                 case me => exact rfl
                 case mg => exact rfl
                 intro v2 w7 hown2 hgrow2 hnil2 hat2
                 have HQ7 : Hid (IRow wl.heap.size w7 v2 (j + 1) (lkC K m N)) := by show World.ownsRow _ _ _ _ _ _ _; rw [ints_succ, hz]; exact hown2
                 have HC7 : Hid (Blk w7 g 75 #[.slice A8 i cap8, .slice A7 j cap7]) := (HC2.out.alloc _).grown hgrow2 (fun e => (HQ2.out.ne HC2.out (by decide)) e.symm)
                 have HX7 : Hid (Exc wl.heap.size g wl w7) := (HX2.out.alloc (Nat.le_refl _) _).grown (Nat.le_refl _) hgrow2 HQ2.out.low
                 obtain ⟨g9, cap9, rfl, -⟩ := HQ7.out.pos (by omega)
                 have y1 := HC7.out.cell 1
                 have y2 := HC7.out.frozen 1
                 simp only [List.getElem?_toArray, List.getElem?_cons_succ, List.getElem?_cons_zero] at y1
                 clear hown2 hgrow2 hnil2 hat2))
            go_roundw
            case rel => exact ⟨i', _, HI', rfl, HF2, by rw [← HII.out]; exact (HQ7.out.set HC7.out (by decide) _), HX7.out.set _ _, HC7.out.set_ 1 _⟩
            case measure => exact HMS.out
          · have T0 : decide ((j : Int) < (r : Int)) = false := by simp <;> omega
            have T0' : decide (j < r) = false := decide_eq_false hlt
            have hin : j = r := by have := Hj.out; omega
            have HR := Lib.hid (crsE_ok (K := K) (m := m) GQ.out HP.out.1 HP.out.2 HF.out (fun k hk => HB.out k (by have := HRR.out; omega)))
            obtain ⟨A7, cap7, rfl⟩ := HQ'.out.form
            obtain ⟨g5, cap5, hv5, hg5, hg6, hc5⟩ := HQ.out.pos HP.out.1
            injection hv5 with hv5 _ _
            subst hv5
            have hgne : g5 ≠ g := fun e => HQ.out.ne HC.out (by decide) (by rw [e]; rfl)
            have HI1 : Hid (IntIn wr (some ⟨g5, 0, none⟩) i (ndC D n N)) := ⟨by have := HP.out.2; omega, .inr ⟨g5, 0, rfl, Nat.lt_of_lt_of_le hg6 HX'.out.size, fun k hk => by rw [Nat.zero_add]; exact (World.cell?_of_block (w := wl) (HX'.out.block g5 hg6 hgne)).trans (hc5 k hk)⟩⟩
            have HI2 := Lib.hid (HQ'.out.int (by have := HP.out.2; have := HRR.out; omega))
            subst hin
            clear hlt hc5
            go_wp2_with fail
            go_ret2
            exact ⟨HWj.out, .inr ⟨HR.out, g, _, cap8, A7, cap7, rfl, by rw [HRR.out]; exact HC'.out, HI1.out, by rw [HRR.out]; exact HI2.out⟩⟩
end Go.Proofs.YtdgfljkhnifemaaGreatDoor

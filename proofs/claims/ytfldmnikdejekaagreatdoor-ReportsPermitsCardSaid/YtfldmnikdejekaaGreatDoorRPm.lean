/- The reference's report on permits. -/
import Derived.Test.YtfldmnikdejekaaGreatDoorPmtC
import Derived.Test.YtfldmnikdejekaaGreatDoorRCk
import Derived.StillTailTactics
namespace Go.Proofs.YtfldmnikdejekaaGreatDoor
open Go.RowKit Go.Maps
set_option linter.unusedVariables false
set_option linter.unusedSimpArgs false

theorem FndIn.cells {w : World} {fb foff j : Nat} {F : List (Int × Int)} (h : FndIn w (some ⟨fb, foff, none⟩) F) (hj : j < F.length) : w.cell? ⟨fb, foff + j * 2, none⟩ = some (.int .i64 (fK F j)) ∧ w.cell? ⟨fb, foff + j * 2 + 1, none⟩ = some (.string (fnm (fV F j))) := h.atS.2 j hj
theorem FndIn.app {w wx w' : World} {u : Value} {N : Nat} {R : List ByteArray} {A : Option Addr} {F : List (Int × Int)} (h : FndIn wx A F) (hm : RMem5 w wx u N R) {cs : Array Value} (hg : (wx.alloc (.cells cs 9)).grownBy w' u.ownBlock) : FndIn w' A F := by
  have ho := hm.1.alloc (.cells cs 9)
  have hF := h.below (Nat.le_refl _) ((Below.refl _ wx).alloc (Nat.le_refl _) (.cells cs 9))
  generalize wx.alloc (.cells cs 9) = wy at ho hg hF
  refine ⟨hF.1, ?_⟩
  rcases hF.2 with h0 | ⟨b, off, hA, ht, cur, hb⟩
  · exact .inl h0
  · have hB : Blk wy b 162 cur := hb
    have hne := own_blk_ne ho hB (by decide)
    have hk := hg.block b ht.1 (fun e => hne e.symm)
    refine .inr ⟨b, off, hA, ⟨Nat.lt_of_lt_of_le ht.1 hg.size, fun k hk' => ?_⟩, cur, hk.trans hb⟩
    obtain ⟨a0, a1⟩ := ht.2 k hk'
    exact ⟨(World.cell?_of_block (a := ⟨b, _, none⟩) hk).trans a0, (World.cell?_of_block (a := ⟨b, _, none⟩) hk).trans a1⟩
/-- The reference's words. -/
def wrdR (p : Nat) : ByteArray := if p = 0 then ⟨#[32, 101, 118, 101, 110, 116, 115, 32, 105, 110, 32]⟩ else if p = 1 then ⟨#[32, 115, 112, 105, 108, 108, 32]⟩ else ⟨#[32, 118, 111, 108, 117, 109, 101, 32, 105, 110, 32]⟩
def wrdsR : Array Value := #[.string (wrdR 0), .string (wrdR 1), .string (wrdR 2)]
theorem wrdR_at {w : World} {g p : Nat} (h : Blk w g 9 wrdsR) (hq : p = 0 ∨ p = 1 ∨ p = 2) : w.cell? ⟨g, p, none⟩ = some (.string (wrdR p)) := by
  rcases hq with rfl | rfl | rfl <;> exact h.cell _
theorem wrdR_list {p : Nat} (hq : p = 0 ∨ p = 1 ∨ p = 2) : (wrdR p).data.toList = 32 :: ((wordB ((p : Int) + 1)).data.toList ++ [32]) := by
  rcases hq with rfl | rfl | rfl <;> rfl
theorem wrdR_size {p : Nat} (hq : p = 0 ∨ p = 1 ∨ p = 2) : (wrdR p).size ≤ 11 := by
  rcases hq with rfl | rfl | rfl <;> decide
theorem rl_K (nm nd : ByteArray) : ((nm ++ ⟨#[32]⟩) ++ nd) ++ ⟨#[32, 107, 101, 112, 116]⟩ = kline nm nd := by
  refine list_of ?_
  rw [jn_three]
  simp [ByteArray.data_append, wKp]
theorem rl_F (nm nd : ByteArray) {p : Nat} (vv : Int) (hq : p = 0 ∨ p = 1 ∨ p = 2) : (((nm ++ ⟨#[32]⟩) ++ nd) ++ wrdR p) ++ fnm vv = fline nm nd ((p : Int) + 1, vv) := by
  refine list_of ?_
  rw [jn_four, ByteArray.data_append, Array.toList_append, ByteArray.data_append, Array.toList_append, wrdR_list hq]
  simp [ByteArray.data_append]
set_option maxRecDepth 100000 in
set_option maxHeartbeats 8000000 in
theorem rreport (A B : Option Addr) (n c m d : Nat) (P : Pms) (L : Evl) (from_ sec : Int) (hn : n ≤ 10 ∨ 1000 < n) (hn2 : n ≤ 2000) (hnm : ∀ k, k < n → (P.Nm k).size ≤ 60 ∧ (P.Nd k).size ≤ 60) (h20 : ∀ k, k < m → L.N k ≤ 20) (w : World) (hP : PmIn w A n P) (hL : ElIn w B m L) :
    Calls Tryz.prog 45 #[.slice A n c, .slice B m d, .int .i64 from_, .int .i64 sec] w (RepPost w P L from_ sec n m) := by
  have HP := Lib.hid hP
  have HL := Lib.hid hL
  have HNM := Lib.hid hnm
  have H20 := Lib.hid h20
  by_cases hmn : m = n
  case neg =>
    have HR : Hid (RepIs P L from_ sec n m [] 3) := .inl ⟨hmn, rfl, rfl⟩
    have t1 : ((m : Int) == (n : Int)) = false := by simp; omega
    have t2 : ((m : Int) != (n : Int)) = true := by simp; omega
    have t3 : (m == n) = false := by simpa using hmn
    have t4 : (m != n) = true := by simpa using hmn
    clear hP hL hnm h20 hmn hn hn2
    go_enter Tryz.func45, Tryz.ntmps45
    go_wp2_with fail
    go_ret2
    exact rep_nil HR.out (by (repeat' (first | assumption | exact Below.refl _ _ | exact Below.size (by assumption) | (refine Below.setCell ?_ ?_ _) | (refine Below.alloc ?_ ?_ _) | (refine Below.drew ?_) | (refine below_drewN ?_ _) | (refine Below.trans ?_ (Below.mono ‹Below _ _ _› ?_)) | omega | (simp; done) | (simp; omega) | (simp at *; omega))))
  case pos =>
  subst hmn
  rcases hn with hn | hn
  case inr =>
    have HR : Hid (RepIs P L from_ sec m m [] 4) := .inr (.inl ⟨rfl, hn, rfl, rfl⟩)
    have t1 : decide ((1000 : Int) < (m : Int)) = true := decide_eq_true (by omega)
    have t2 : decide (1000 < m) = true := decide_eq_true hn
    clear hP hL hnm h20 hn hn2
    go_enter Tryz.func45, Tryz.ntmps45
    go_wp2_with fail
    go_ret2
    exact rep_nil HR.out (by (repeat' (first | assumption | exact Below.refl _ _ | exact Below.size (by assumption) | (refine Below.setCell ?_ ?_ _) | (refine Below.alloc ?_ ?_ _) | (refine Below.drew ?_) | (refine below_drewN ?_ _) | (refine Below.trans ?_ (Below.mono ‹Below _ _ _› ?_)) | omega | (simp; done) | (simp; omega) | (simp at *; omega))))
  case inl =>
  have H10 := Lib.hid hn
  have t1 : decide ((1000 : Int) < (m : Int)) = false := decide_eq_false (by omega)
  have t2 : decide (1000 < m) = false := decide_eq_false (by omega)
  obtain ⟨SI0, si0, sz0, sz1, sz2⟩ := info_parts1 infoS
  have SI1 := Lib.hid si0
  have SI2 := Lib.hid sz0
  have SI3 := Lib.hid sz1
  have SI4 := Lib.hid sz2
  clear hP hL hnm h20 hn hn2 si0 sz0 sz1 sz2
  go_enter Tryz.func45, Tryz.ntmps45
  go_wp2_with fail
  have HB1 : Hid (Blk (w.alloc (Obj.cells wrdsR 9)) w.heap.size 9 wrdsR) := Blk.new w 9 wrdsR
  have HW1 : Hid (Below w.heap.size w (w.alloc (Obj.cells wrdsR 9))) := (Below.refl _ w).alloc (Nat.le_refl _) _
  have hal : w.alloc (Obj.cells #[.string ⟨#[32, 101, 118, 101, 110, 116, 115, 32, 105, 110, 32]⟩, .string ⟨#[32, 115, 112, 105, 108, 108, 32]⟩, .string ⟨#[32, 118, 111, 108, 117, 109, 101, 32, 105, 110, 32]⟩] 9) = w.alloc (Obj.cells wrdsR 9) := rfl
  rw [hal]
  clear hal
  generalize w.alloc (Obj.cells wrdsR 9) = w1 at HB1 HW1 ⊢
  generalize hgw : w.heap.size = gw at HB1 ⊢
  clear hgw
  go_loopw [11, 12] (fun u v wr => ∃ (i N : Nat) (R : List ByteArray), Hid (i ≤ m) ∧ v = .int .i64 i ∧ Hid (∀ j, j < i → perr P L from_ sec j = 0) ∧ Hid (R = pout P L from_ sec i) ∧ Hid (N = R.length) ∧ Hid (RMem5 w1 wr u N R)) (fun _ v _ => m - (RowKit.intOf v).toNat)
  case atStart => exact ⟨0, 0, [], Nat.zero_le _, rfl, fun j hj => absurd hj (Nat.not_lt_zero _), rfl, rfl, World.ownsRow_nil _ _ _ _, Below.refl _ _⟩
  case round =>
    obtain ⟨i, N, R, Hi, rfl, HG, HR, HN, HQ⟩ := hrel
    obtain ⟨A8, cap8, h8⟩ := HQ.out.form
    subst h8
    have HWr : Hid (Below w.heap.size w wr) := below_step HW1.out HQ.out.2
    have HN6 : Hid (N ≤ 60 * i) := by show N ≤ 60 * i; rw [HN.out, HR.out]; exact pout_len P L from_ sec (n := m) (fun k hk => H20.out k hk) i Hi.out
    have HN2 : Hid (N ≤ 2000) := by show N ≤ 2000; have := HN6.out; have := Hi.out; have := H10.out; omega
    by_cases hlt : i < m
    · have T0 : decide ((i : Int) < (m : Int)) = true := by simp <;> omega
      have T0' : decide (i < m) = true := decide_eq_true hlt
      obtain ⟨i', hi'⟩ : ∃ z, z = i + 1 := ⟨_, rfl⟩
      have x0 : IntKind.i64.wrap ((i : Int) + 1) = (i' : Int) := by have := H10.out; rw [IntKind.wrap_i64]; omega
      have HI' : Hid (i' ≤ m) := by show i' ≤ m; omega
      have HMS : Hid (m - (RowKit.intOf (Value.int .i64 (i' : Int))).toNat < m - (RowKit.intOf (Value.int .i64 (i : Int))).toNat) := by show _ < _; simp [RowKit.intOf]; omega
      have k0 : (0 : Int) ≤ (i : Int) := by omega
      have k1 : (i : Int) < (m : Int) := by omega
      obtain ⟨b1, off1, rfl, hb1, c0, c1, c2, c3, c4⟩ := (HP.out.below (Nat.le_refl _) HWr.out).at hlt
      obtain ⟨b2, off2, rfl, hb2, e0, hev, hnc⟩ := (HL.out.below (Nat.le_refl _) HWr.out).at hlt
      have HEV := Lib.hid hev
      have hNi := H20.out i hlt
      have hsz := HNM.out i hlt
      have HPO : Hid (pout P L from_ sec i' = R ++ plin P L from_ sec i) := by show _ = _; rw [hi', HR.out]; rfl
      have HLT := Lib.hid hlt
      have HGS : Hid (perr P L from_ sec i = 0 → ∀ j, j < i' → perr P L from_ sec j = 0) := fun h j hj => by
        rcases Nat.lt_or_ge j i with g | g
        · exact HG.out j g
        · have : j = i := by omega
          rw [this]; exact h
      obtain ⟨er, her⟩ : ∃ z, z = perr P L from_ sec i := ⟨_, rfl⟩
      have sc := fun w hT => rcheck (P.Nm i) (P.Nd i) (P.Ev i) (P.Vol i) (P.Tot i) (by unfold maxLen; omega) (by unfold maxLen; omega) (L.A i) (L.N i) (L.C i) (L.E i) from_ sec (by omega) w hT er her
      have SC := Lib.hid sc
      obtain ⟨F, hF⟩ : ∃ z, z = pfnd P L from_ sec i := ⟨_, rfl⟩
      have hFc : F = chkL (validB (P.Nm i) (P.Nd i) (P.Ev i) (P.Vol i) (P.Tot i) = true) (L.E i) (L.N i) from_ sec (P.Ev i) (P.Vol i) (P.Tot i) := hF
      have HF := Lib.hid hFc
      clear hFc
      have hF60 : F.length ≤ 60 := by rw [hF]; exact pfnd_len P L from_ sec i hNi
      have HF60 := Lib.hid hF60
      have HFM : Hid (∀ j, j < F.length → (fK F j = 1 ∨ fK F j = 2 ∨ fK F j = 3) ∧ 0 ≤ fV F j ∧ fV F j ≤ 9999) := by show ∀ j, _; rw [hF]; exact fun j hj => fnd_at hNi hj
      have HPN : Hid (∀ j, j < F.length → part P L from_ sec i (j + 1) = part P L from_ sec i j ++ [fline (P.Nm i) (P.Nd i) (fK F j, fV F j)]) := by show ∀ j, _; rw [hF]; exact fun j hj => part_succ P L from_ sec hj
      have HP0 : Hid (F.length = 0 → plin P L from_ sec i = [kline (P.Nm i) (P.Nd i)]) := by show _ → _; rw [hF]; exact part_none P L from_ sec
      have HP1 : Hid (0 < F.length → part P L from_ sec i F.length = plin P L from_ sec i) := by show _ → _; rw [hF]; exact part_all P L from_ sec
      have HPL : Hid (∀ j, (part P L from_ sec i j).length ≤ 60) := fun j => part_len P L from_ sec i j hNi
      have HPZ : Hid (part P L from_ sec i 0 = []) := rfl
      have HER := Lib.hid her
      generalize P.Nm i = nm at c0 SC hsz HPN HP0 HF
      generalize P.Nd i = nd at c1 SC hsz HPN HP0 HF
      generalize P.Ev i = ev at c2 SC HF
      generalize P.Vol i = vol at c3 SC HF
      generalize P.Tot i = tot at c4 SC HF
      have HSZ := Lib.hid hsz
      clear hi' hlt hev hNi hsz her sc hF hF60 hnc
      go_upto_region 10 with fail
      by_cases hz : er = 0
      case neg =>
        have HRE : Hid (RepIs P L from_ sec m m [] er) := .inr (.inr ⟨rfl, by have := H10.out; omega, .inl ⟨i, HLT.out, HG.out, by rw [← HER.out]; exact hz, rfl, HER.out⟩⟩)
        have t5 : (er == 0) = false := by simpa using hz
        have t6 : (er != 0) = true := by simpa using hz
        clear hz
        go_region_held3 (fun w' => w'.cell? ⟨b1, off1 + i * 5, none⟩ = some (.string nm) ∧ w'.cell? ⟨b1, off1 + i * 5 + 1, none⟩ = some (.string nd) ∧ w'.cell? ⟨b1, off1 + i * 5 + 2, none⟩ = some (.int .i64 ev) ∧ w'.cell? ⟨b1, off1 + i * 5 + 3, none⟩ = some (.int .i64 vol) ∧ w'.cell? ⟨b1, off1 + i * 5 + 4, none⟩ = some (.int .i64 tot) ∧ w'.cell? ⟨b2, off2 + i, none⟩ = some (.slice (L.A i) (L.N i) (L.C i))) (first | exact ⟨c0, c1, c2, c3, c4, e0⟩ | exact ⟨z0, z1, z2, z3, z4, z5⟩) (first
          | (go_at_call 107
             with_reducible refine (SC.out _ ?_).mono ?_
             focus (exact HEV.out.below (Nat.le_refl _) ((Below.refl _ wr).drew))
             rintro e w5 ⟨A3, N3, c3', rfl, hN3, hF3, hb5⟩
             have hb5' : Below wr.heap.size wr w5 := ((Below.refl _ wr).drew).trans hb5
             have HQ5 := Lib.hid (HQ.out.call hb5')
             have HN3 : Hid (N3 = F.length) := by show _ = _; rw [HF.out]; exact hN3
             have HFI5 : Hid (FndIn w5 A3 F) := by show FndIn _ _ _; rw [HF.out]; exact hF3
             have z0 := (hb5'.cell (p := ⟨b1, _, none⟩) hb1).trans c0
             have z1 := (hb5'.cell (p := ⟨b1, _, none⟩) hb1).trans c1
             have z2 := (hb5'.cell (p := ⟨b1, _, none⟩) hb1).trans c2
             have z3 := (hb5'.cell (p := ⟨b1, _, none⟩) hb1).trans c3
             have z4 := (hb5'.cell (p := ⟨b1, _, none⟩) hb1).trans c4
             have z5 := (hb5'.cell (p := ⟨b2, _, none⟩) hb2).trans e0
             have hbz1 : b1 < w5.heap.size := Nat.lt_of_lt_of_le hb1 hb5'.size
             clear hN3 hF3 hb5 hb5'))
        go_wp2_with fail
        go_ret2
        exact rep_nil HRE.out (below_step HW1.out HQ5.out.2)
      case pos =>
        subst hz
        go_region_held3 (fun w' => w'.cell? ⟨b1, off1 + i * 5, none⟩ = some (.string nm) ∧ w'.cell? ⟨b1, off1 + i * 5 + 1, none⟩ = some (.string nd) ∧ w'.cell? ⟨b1, off1 + i * 5 + 2, none⟩ = some (.int .i64 ev) ∧ w'.cell? ⟨b1, off1 + i * 5 + 3, none⟩ = some (.int .i64 vol) ∧ w'.cell? ⟨b1, off1 + i * 5 + 4, none⟩ = some (.int .i64 tot) ∧ w'.cell? ⟨b2, off2 + i, none⟩ = some (.slice (L.A i) (L.N i) (L.C i))) (first | exact ⟨c0, c1, c2, c3, c4, e0⟩ | exact ⟨z0, z1, z2, z3, z4, z5⟩) (first
          | (go_at_call 107
             with_reducible refine (SC.out _ ?_).mono ?_
             focus (exact HEV.out.below (Nat.le_refl _) ((Below.refl _ wr).drew))
             rintro e w5 ⟨A3, N3, c3', rfl, hN3, hF3, hb5⟩
             have hb5' : Below wr.heap.size wr w5 := ((Below.refl _ wr).drew).trans hb5
             have HQ5 := Lib.hid (HQ.out.call hb5')
             have HN3 : Hid (N3 = F.length) := by show _ = _; rw [HF.out]; exact hN3
             have HFI5 : Hid (FndIn w5 A3 F) := by show FndIn _ _ _; rw [HF.out]; exact hF3
             have z0 := (hb5'.cell (p := ⟨b1, _, none⟩) hb1).trans c0
             have z1 := (hb5'.cell (p := ⟨b1, _, none⟩) hb1).trans c1
             have z2 := (hb5'.cell (p := ⟨b1, _, none⟩) hb1).trans c2
             have z3 := (hb5'.cell (p := ⟨b1, _, none⟩) hb1).trans c3
             have z4 := (hb5'.cell (p := ⟨b1, _, none⟩) hb1).trans c4
             have z5 := (hb5'.cell (p := ⟨b2, _, none⟩) hb2).trans e0
             have hbz1 : b1 < w5.heap.size := Nat.lt_of_lt_of_le hb1 hb5'.size
             clear hN3 hF3 hb5 hb5'))
        have hs1 := HSZ.out
        have u1 : ((nm.size : Nat) : Int) ≤ 8388608 := by omega
        have u2 : ((nd.size : Nat) : Int) ≤ 8388608 := by omega
        have u3 : (((nm ++ ⟨#[32]⟩ : ByteArray).size : Nat) : Int) ≤ 8388608 := by
          have : (nm ++ ⟨#[32]⟩ : ByteArray).size = nm.size + 1 := by rw [ByteArray.size_append]; rfl
          omega
        have lm1 : ¬ 9223372036854775807 < nm.size + 1 := by omega
        have lm2 : ¬ 9223372036854775807 < nm.size + 1 + nd.size := by omega
        clear hs1
        go_wp2_with fail
        go_quiet (fail)
        have HQd := Lib.hid (HQ5.out.call (below_drewN (Below.refl _ w5) nq))
        have HFd := Lib.hid (HFI5.out.below (Nat.le_refl _) (below_drewN (Below.refl _ w5) nq))
        generalize w5.drewN nq = wq at HQd HFd ⊢
        clear z0 z1 z2 z3 z4 z5 c0 c1 c2 c3 c4 e0 u1 u2 u3 lm1 lm2 HQ5 HFI5
        obtain ⟨hd, hhd⟩ : ∃ z, z = (nm ++ ⟨#[32]⟩) ++ nd := ⟨_, rfl⟩
        have hh1 : hd.size ≤ 130 := by
          have h1 := HSZ.out
          have : hd.size = nm.size + 1 + nd.size := by rw [hhd, ByteArray.size_append, ByteArray.size_append]; rfl
          omega
        have HH := Lib.hid hh1
        have HD := Lib.hid hhd
        have v1 : ((hd.size : Nat) : Int) ≤ 8388608 := by omega
        by_cases hF0 : F.length = 0
        case pos =>
          have HFZ := Lib.hid hF0
          have HPX : Hid (pout P L from_ sec i' = R ++ [hd ++ ⟨#[32, 107, 101, 112, 116]⟩]) := by show _ = _; rw [HPO.out, HP0.out HFZ.out, HD.out, rl_K]
          have lm3 : ¬ 9223372036854775807 < hd.size + 5 := by omega
          clear hF0 hh1
          obtain rfl : N3 = 0 := HN3.out.trans HFZ.out
          rw [← hhd]
          clear hhd
          go_wp2_with (first
            | (at_builtin; refine wpList_append_own_at _ ?kaa (.tmp 64) (.tmp 67) 27 ?kab (w1.heap.size) 9 SI0 (.string ByteArray.empty) 1 16 Tryz.underlying27 SI1.out SI2.out SI3.out SI4.out ?kac ?kad (.slice A8 N cap8) (N) (sc R) ?kae (HQd.out.1.alloc _) (⟨wq.heap.size, 0, none⟩) (1) (1) ([.string (hd ++ ⟨#[32, 107, 101, 112, 116]⟩)]) ?kag (rfl) (World.news_of_block (cs := #[.string (hd ++ ⟨#[32, 107, 101, 112, 116]⟩)]) (t := 9) (fr := (0, 0)) (heap_alloc_new _ _)) ((by simp [Value.oneCell'])) (h63_k HN2.out) (hby_k HN2.out) (Nat.le_trans HQd.out.2.size (by simp)) ?kah
               case kaa => exact rfl
               case kab => exact rfl
               case kac => exact rfl
               case kad => decide
               case kae => exact rfl
               case kag => exact rfl
               intro v2 w7 hown2 hgrow2 hnil2 hat2
               have HM7 := Lib.hid (HQd.out.app hown2 hgrow2)
               clear hown2 hgrow2 hnil2 hat2))
          go_loopw [11, 16] (fun u v wr => v = .int .i64 0 ∧ u = v2 ∧ Hid (RMem5 w1 wr u (N + 1) (R ++ [hd ++ ⟨#[32, 107, 101, 112, 116]⟩]))) (fun _ _ _ => 0)
          case atStart => exact ⟨rfl, rfl, HM7⟩
          case round =>
            obtain ⟨rfl, rfl, HZ⟩ := hrel
            go_wp2_with fail
            go_roundw
            case rel => exact ⟨i', N + 1, _, HI', rfl, HGS.out HER.out.symm, HPX.out.symm, by show N + 1 = _; rw [List.length_append, HN.out]; rfl, HZ⟩
            case measure => exact HMS.out
        case neg =>
          have HFP : Hid (0 < F.length) := by show 0 < F.length; omega
          have t7 : (F.length == 0) = false := by simpa using hF0
          have t8 : ((F.length : Int) == 0) = false := by rw [beq_eq_false_iff_ne]; omega
          clear hF0 hh1
          rw [← hhd]
          clear hhd
          obtain rfl : N3 = F.length := HN3.out
          generalize hgN : F.length = N3 at t7 t8 HFP HF60 HFM HPN HP1 ⊢
          have HFN : Hid (F.length = N3) := hgN
          clear hgN HN3
          go_wp2_with fail
          go_loopw [11, 16] (fun u v wr => ∃ (j M : Nat) (Q : List ByteArray), Hid (j ≤ N3) ∧ v = .int .i64 j ∧ Hid (Q = R ++ part P L from_ sec i j) ∧ Hid (M = Q.length) ∧ Hid (RMem5 w1 wr u M Q) ∧ Hid (FndIn wr A3 F)) (fun _ v _ => N3 - (RowKit.intOf v).toNat)
          case atStart => exact ⟨0, N, R, Nat.zero_le _, rfl, by show R = _; rw [HPZ.out, List.append_nil], HN, HQd, HFd⟩
          case round =>
            obtain ⟨j, M, Q, Hj, rfl, HRj, HMj, HZ, HKZ⟩ := hrel
            obtain ⟨A9, cap9, h9⟩ := HZ.out.form
            subst h9
            have HM2 : Hid (M ≤ 2000) := by
              show M ≤ 2000
              have h1 := HMj.out; have h2 := HPL.out j; have h3 := HN6.out; have h4 := Hi.out; have h5 := H10.out; have h6 := HN.out
              rw [HRj.out, List.length_append] at h1
              omega
            by_cases hjt : j < N3
            · have T1 : decide ((j : Int) < (N3 : Int)) = true := by simp <;> omega
              have T1' : decide (j < N3) = true := decide_eq_true hjt
              obtain ⟨j', hj'⟩ : ∃ z, z = j + 1 := ⟨_, rfl⟩
              have x1 : IntKind.i64.wrap ((j : Int) + 1) = (j' : Int) := by have := HF60.out; rw [IntKind.wrap_i64]; omega
              have HJ' : Hid (j' ≤ N3) := by show j' ≤ N3; omega
              have HMS2 : Hid (N3 - (RowKit.intOf (Value.int .i64 (j' : Int))).toNat < N3 - (RowKit.intOf (Value.int .i64 (j : Int))).toNat) := by show _ < _; simp [RowKit.intOf]; omega
              have m0 : (0 : Int) ≤ (j : Int) := by omega
              have m1 : (j : Int) < (N3 : Int) := by omega
              have HKZ' := HKZ
              obtain ⟨fb, foff, rfl, hfb, f0, f1⟩ := HKZ.out.at (k := j) (by rw [HFN.out]; exact hjt)
              obtain ⟨hk3, hv0, hv1⟩ := HFM.out j hjt
              have HJT := Lib.hid hjt
              obtain ⟨vv, hvv⟩ : ∃ z, z = fV F j := ⟨_, rfl⟩
              have HVV := Lib.hid hvv
              have hpn := HPN.out j hjt
              rw [← hvv] at f1 hv0 hv1 hpn
              obtain ⟨q, hq⟩ : ∃ q : Nat, fK F j = (q : Int) + 1 := ⟨((fK F j) - 1).toNat, by omega⟩
              obtain ⟨q9, hq9⟩ : ∃ z : Int, z = (q : Int) + 1 := ⟨_, rfl⟩
              rw [hq] at hk3 hpn
              have HK0 : Hid (fK F j = q9) := by show _ = _; rw [hq, hq9]
              rw [HK0.out] at f0
              have hq3 : q = 0 ∨ q = 1 ∨ q = 2 := by omega
              have HQJ : Hid (R ++ part P L from_ sec i j' = Q ++ [(hd ++ wrdR q) ++ fnm vv]) := by show _ = _; rw [hj', hpn, ← List.append_assoc, ← HRj.out, HD.out, rl_F _ _ _ hq3]
              have q0 : (0 : Int) ≤ (q : Int) := by omega
              have q1 : (q : Int) < 3 := by omega
              have q2 : IntKind.i64.wrap (q9 - 1) = (q : Int) := by rw [IntKind.wrap_i64]; omega
              have hh1 := HH.out
              have ws := wrdR_size hq3
              have fs := fnm_small hv0 hv1
              have s4 := wrdR_at (HB1.out.below HZ.out.2 HB1.out.lt) hq3
              have v2 : (((wrdR q).size : Nat) : Int) ≤ 8388608 := by omega
              have v3 : (((fnm vv).size : Nat) : Int) ≤ 8388608 := by omega
              have v4 : (((hd ++ wrdR q : ByteArray).size : Nat) : Int) ≤ 8388608 := by rw [ByteArray.size_append]; omega
              have lm4 : ¬ 9223372036854775807 < hd.size + (wrdR q).size := by omega
              have lm5 : ¬ 9223372036854775807 < hd.size + (wrdR q).size + (fnm vv).size := by omega
              have HQ3 := Lib.hid hq3
              clear hj' hjt hk3 hv0 hv1 hpn hq hq3 hq9 hh1 ws fs hvv
              generalize hwq : wrdR q = wq at s4 v2 v4 lm4 lm5 HQJ
              generalize hnv : fnm vv = nv at f1 v3 lm5 HQJ
              have HWQ := Lib.hid hwq
              have HNV : Hid (fnm (fV F j) = nv) := by show _ = _; rw [← HVV.out, hnv]
              clear hwq hnv
              go_upto_region 19 with fail
              have HZd : Hid (RMem5 w1 wr.drew (.slice A9 M cap9) M Q) := HZ.out.call ((Below.refl _ wr).drew)
              have HKd : Hid (FndIn wr.drew (some ⟨fb, foff, none⟩) F) := HKZ.out.below (Nat.le_refl _) ((Below.refl _ wr).drew)
              have KS : Hid (∀ w', Below wr.heap.size wr w' → w'.cell? ⟨fb, foff + j * 2, none⟩ = some (.int .i64 q9) ∧ w'.cell? ⟨fb, foff + j * 2 + 1, none⟩ = some (.string nv) ∧ w'.cell? ⟨gw, q, none⟩ = some (.string wq)) := fun w' h => ⟨(h.cell (p := ⟨fb, _, none⟩) hfb).trans f0, (h.cell (p := ⟨fb, _, none⟩) hfb).trans f1, (h.cell (p := ⟨gw, q, none⟩) (World.block_lt_of_cell? wr _ s4)).trans s4⟩
              go_region_held3 (fun w' => w'.cell? ⟨fb, foff + j * 2, none⟩ = some (.int .i64 q9) ∧ w'.cell? ⟨fb, foff + j * 2 + 1, none⟩ = some (.string nv) ∧ w'.cell? ⟨gw, q, none⟩ = some (.string wq)) (first
                | exact ⟨f0, f1, s4⟩
                | exact KS.out _ ((Below.refl _ wr).drew)
                | exact KS.out _ (((Below.refl _ wr).alloc (Nat.le_refl _) _).drew)
                | exact ⟨y0, y1, y2⟩) (first
                | ((refine step_append_lies _ (by rfl) _ _ _ (by rfl) w1.heap.size 9 SI0 (.string ByteArray.empty) 1 16 Tryz.underlying27 SI1.out SI2.out SI3.out SI4.out rfl (by omega) (.slice A9 M cap9) (M) (sc Q) (by rfl) (HZd.out.1.alloc _) ⟨wr.heap.size, 0, none⟩ 1 1 [.string ((hd ++ wq) ++ nv)] (by rfl) (by rfl) (World.news_of_block (cs := #[.string ((hd ++ wq) ++ nv)]) (t := 9) (fr := (0, 0)) (heap_alloc_new wr _)) (by simp [Value.oneCell']) (by omega) (h63_k HM2.out) (hby_k HM2.out) (base_alloc1 HZd.out.2.size _) (wr.heap.size + 1) (by simp) ?_
                    intro gg capg wA hownA hgrowA hatA hltA
                    have HM7 := Lib.hid (HZd.out.app hownA hgrowA)
                    have HK7 := Lib.hid (HKd.out.app HZd.out hgrowA)
                    obtain ⟨y0, y1⟩ := HK7.out.cells (j := j) (by rw [HFN.out]; exact HJT.out)
                    rw [HK0.out] at y0
                    rw [HNV.out] at y1
                    have y2 := wrdR_at (HB1.out.below HM7.out.2 HB1.out.lt) HQ3.out
                    rw [HWQ.out] at y2
                    clear hownA hgrowA hatA hltA)))
              go_wp2_with fail
              go_roundw
              case rel => exact ⟨j', M + 1, _, HJ', rfl, HQJ.out.symm, by show M + 1 = _; rw [List.length_append, HMj.out]; rfl, HM7, HK7⟩
              case measure => exact HMS2.out
            · have hjn : j = N3 := by have := Hj.out; omega
              have T1 : decide ((j : Int) < (N3 : Int)) = false := by simp <;> omega
              have T1' : decide (j < N3) = false := decide_eq_false hjt
              have HQX : Hid (pout P L from_ sec i' = Q) := by show _ = _; rw [HPO.out, HRj.out, hjn, ← HP1.out HFP.out]
              clear hjn hjt
              go_wp2_with fail
              go_roundw
              case rel => exact ⟨i', M, Q, HI', rfl, HGS.out HER.out.symm, HQX.out.symm, HMj, HZ⟩
              case measure => exact HMS.out
    · have hin : i = m := by have := Hi.out; omega
      have T0 : decide ((i : Int) < (m : Int)) = false := by simp <;> omega
      have T0' : decide (i < m) = false := decide_eq_false hlt
      have HRE : Hid (RepIs P L from_ sec m m R 0) := .inr (.inr ⟨rfl, by have := H10.out; omega, .inr ⟨by rw [← hin]; exact HG.out, by rw [HR.out, hin], rfl⟩⟩)
      clear hlt hin
      go_wp2_with fail
      go_ret2
      exact HQ.out.rep HW1.out HN.out HN2.out HRE.out
end Go.Proofs.YtfldmnikdejekaaGreatDoor

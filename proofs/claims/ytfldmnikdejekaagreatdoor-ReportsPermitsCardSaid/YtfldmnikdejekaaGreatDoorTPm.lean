/- The package's report on permits: the walk. -/
import Derived.Test.YtfldmnikdejekaaGreatDoorPmtC
import Derived.StillTailTactics
namespace Go.Proofs.YtfldmnikdejekaaGreatDoor
open Go.RowKit Go.Maps
set_option linter.unusedVariables false
set_option linter.unusedSimpArgs false

/-- What the loop over findings keeps beside its row: the permit, and the findings. -/
def KeepP (w : World) (G : Nat) (nm nd : ByteArray) (ev vol tot : Int) (A : Option Addr) (F : List (Int × Int)) : Prop := Blk w G 87 #[.string nm, .string nd, .int .i64 ev, .int .i64 vol, .int .i64 tot] ∧ FndIn w A F
theorem KeepP.call {w w' : World} {G : Nat} {nm nd : ByteArray} {ev vol tot : Int} {A : Option Addr} {F : List (Int × Int)} (h : KeepP w G nm nd ev vol tot A F) (hb : Below w.heap.size w w') : KeepP w' G nm nd ev vol tot A F := ⟨h.1.call hb, h.2.below (Nat.le_refl _) hb⟩
theorem KeepP.app {w wx w' : World} {u : Value} {N : Nat} {R : List ByteArray} {G : Nat} {nm nd : ByteArray} {ev vol tot : Int} {A : Option Addr} {F : List (Int × Int)} (h : KeepP wx G nm nd ev vol tot A F) (hm : RMem5 w wx u N R) {cs : Array Value} (hg : (wx.alloc (.cells cs 9)).grownBy w' u.ownBlock) : KeepP w' G nm nd ev vol tot A F := by
  have ho := hm.1.alloc (.cells cs 9)
  have hF := h.2.below (Nat.le_refl _) ((Below.refl _ wx).alloc (Nat.le_refl _) (.cells cs 9))
  have hG := h.1.alloc (.cells cs 9)
  generalize wx.alloc (.cells cs 9) = wy at ho hg hF hG
  refine ⟨hG.grown hg (fun e => own_blk_ne ho hG (by decide) e.symm), hF.1, ?_⟩
  rcases hF.2 with h0 | ⟨b, off, hA, ht, cur, hb⟩
  · exact .inl h0
  · have hB : Blk wy b 162 cur := hb
    have hne := own_blk_ne ho hB (by decide)
    have hk := hg.block b ht.1 (fun e => hne e.symm)
    refine .inr ⟨b, off, hA, ⟨Nat.lt_of_lt_of_le ht.1 hg.size, fun k hk' => ?_⟩, cur, hk.trans hb⟩
    obtain ⟨a0, a1⟩ := ht.2 k hk'
    exact ⟨(World.cell?_of_block (a := ⟨b, _, none⟩) hk).trans a0, (World.cell?_of_block (a := ⟨b, _, none⟩) hk).trans a1⟩
def wrdP : Array Value := #[.string ⟨#[]⟩, .string wEv, .string wSp, .string wVo]
theorem wrd_at {w : World} {g q : Nat} (h : Blk w g 160 wrdP) (hq : q = 1 ∨ q = 2 ∨ q = 3) : w.cell? ⟨g, q, none⟩ = some (.string (wordB (q : Int))) := by
  rcases hq with rfl | rfl | rfl <;> exact h.cell _
set_option maxRecDepth 100000 in
set_option maxHeartbeats 8000000 in
theorem treport (A B : Option Addr) (n c m d : Nat) (P : Pms) (L : Evl) (from_ sec : Int) (hn : n ≤ 10 ∨ 1000 < n) (hn2 : n ≤ 2000) (hnm : ∀ k, k < n → (P.Nm k).size ≤ 60 ∧ (P.Nd k).size ≤ 60) (h20 : ∀ k, k < m → L.N k ≤ 20) (w : World) (hE : Env5 w) (hP : PmIn w A n P) (hL : ElIn w B m L) :
    Calls Tryz.prog 44 #[.slice A n c, .slice B m d, .int .i64 from_, .int .i64 sec] w (RepPost w P L from_ sec n m) := by
  have HE := Lib.hid hE
  have HP := Lib.hid hP
  have HL := Lib.hid hL
  have HNM := Lib.hid hnm
  have H20 := Lib.hid h20
  by_cases hmn : m = n
  case neg =>
    have HR : Hid (RepIs P L from_ sec n m [] 3) := .inl ⟨hmn, rfl, rfl⟩
    have t1 : ((m : Int) == (n : Int)) = false := by simp; omega
    have t2 : ((m : Int) != (n : Int)) = true := by simp; omega
    have t3 : (m == n) = false := by simpa using hmn
    have t4 : (m != n) = true := by simpa using hmn
    clear hE hP hL hnm h20 hmn hn hn2
    go_enter Tryz.func44, Tryz.ntmps44
    go_wp2_with fail
    go_ret2
    exact rep_nil HR.out (by (repeat' (first | assumption | exact Below.refl _ _ | exact Below.size (by assumption) | (refine Below.setCell ?_ ?_ _) | (refine Below.alloc ?_ ?_ _) | (refine Below.drew ?_) | (refine below_drewN ?_ _) | (refine Below.trans ?_ (Below.mono ‹Below _ _ _› ?_)) | omega | (simp; done) | (simp; omega) | (simp at *; omega))))
  case pos =>
  subst hmn
  rcases hn with hn | hn
  case inr =>
    have HR : Hid (RepIs P L from_ sec m m [] 4) := .inr (.inl ⟨rfl, hn, rfl, rfl⟩)
    have t1 : decide ((1000 : Int) < (m : Int)) = true := decide_eq_true (by omega)
    have t2 : decide (1000 < m) = true := decide_eq_true hn
    clear hE hP hL hnm h20 hn hn2
    go_enter Tryz.func44, Tryz.ntmps44
    go_wp2_with fail
    go_ret2
    exact rep_nil HR.out (by (repeat' (first | assumption | exact Below.refl _ _ | exact Below.size (by assumption) | (refine Below.setCell ?_ ?_ _) | (refine Below.alloc ?_ ?_ _) | (refine Below.drew ?_) | (refine below_drewN ?_ _) | (refine Below.trans ?_ (Below.mono ‹Below _ _ _› ?_)) | omega | (simp; done) | (simp; omega) | (simp at *; omega))))
  case inl =>
  have H10 := Lib.hid hn
  have t1 : decide ((1000 : Int) < (m : Int)) = false := decide_eq_false (by omega)
  have t2 : decide (1000 < m) = false := decide_eq_false (by omega)
  obtain ⟨SI0, si0, sz0, sz1, sz2⟩ := info_parts1 infoS
  have SI1 := Lib.hid si0
  have SI2 := Lib.hid sz0
  have SI3 := Lib.hid sz1
  have SI4 := Lib.hid sz2
  clear hE hP hL hnm h20 hn hn2 si0 sz0 sz1 sz2
  go_enter Tryz.func44, Tryz.ntmps44
  go_wp2_with fail
  have HB1 : Hid (Blk (w.alloc (Obj.cells wrdP 160)) w.heap.size 160 wrdP) := Blk.new w 160 wrdP
  have HW1 : Hid (Below w.heap.size w (w.alloc (Obj.cells wrdP 160))) := (Below.refl _ w).alloc (Nat.le_refl _) _
  have hal : w.alloc (Obj.cells #[.string ⟨#[]⟩, .string ⟨#[101, 118, 101, 110, 116, 115, 32, 105, 110]⟩, .string ⟨#[115, 112, 105, 108, 108]⟩, .string ⟨#[118, 111, 108, 117, 109, 101, 32, 105, 110]⟩] 160) = w.alloc (Obj.cells wrdP 160) := rfl
  rw [hal]
  clear hal
  generalize w.alloc (Obj.cells wrdP 160) = w1 at HB1 HW1 ⊢
  generalize hgw : w.heap.size = gw at HB1 ⊢
  clear hgw
  go_loopw [11, 29] (fun u v wr => ∃ (i N : Nat) (R : List ByteArray), Hid (i ≤ m) ∧ v = .int .i64 i ∧ Hid (∀ j, j < i → perr P L from_ sec j = 0) ∧ Hid (R = pout P L from_ sec i) ∧ Hid (N = R.length) ∧ Hid (RMem5 w1 wr u N R)) (fun _ v _ => m - (RowKit.intOf v).toNat)
  case atStart => exact ⟨0, 0, [], Nat.zero_le _, rfl, fun j hj => absurd hj (Nat.not_lt_zero _), rfl, rfl, World.ownsRow_nil _ _ _ _, Below.refl _ _⟩
  case round =>
    obtain ⟨i, N, R, Hi, rfl, HG, HR, HN, HQ⟩ := hrel
    obtain ⟨A8, cap8, h8⟩ := HQ.out.form
    subst h8
    have HWr : Hid (Below w.heap.size w wr) := below_step HW1.out HQ.out.2
    have HN6 : Hid (N ≤ 60 * i) := by show N ≤ 60 * i; rw [HN.out, HR.out]; exact pout_len P L from_ sec (n := m) (fun k hk => H20.out k hk) i Hi.out
    have HN2 : Hid (N ≤ 2000) := by show N ≤ 2000; have := HN6.out; have := Hi.out; have := H10.out; omega
    by_cases hlt : i < m
    · have T0 : decide ((i : Int) < (m : Int)) = true := by simp <;> omega
      have T0' : decide (i < m) = true := decide_eq_true hlt
      obtain ⟨i', hi'⟩ : ∃ z, z = i + 1 := ⟨_, rfl⟩
      have x0 : IntKind.i64.wrap ((i : Int) + 1) = (i' : Int) := by have := H10.out; rw [IntKind.wrap_i64]; omega
      have HI' : Hid (i' ≤ m) := by show i' ≤ m; omega
      have HMS : Hid (m - (RowKit.intOf (Value.int .i64 (i' : Int))).toNat < m - (RowKit.intOf (Value.int .i64 (i : Int))).toNat) := by show _ < _; simp [RowKit.intOf]; omega
      have k0 : (0 : Int) ≤ (i : Int) := by omega
      have k1 : (i : Int) < (m : Int) := by omega
      obtain ⟨b1, off1, rfl, hb1, c0, c1, c2, c3, c4⟩ := (HP.out.below (Nat.le_refl _) HWr.out).at hlt
      obtain ⟨b2, off2, rfl, hb2, e0, hev, hnc⟩ := (HL.out.below (Nat.le_refl _) HWr.out).at hlt
      have HEV := Lib.hid hev
      have hNi := H20.out i hlt
      have hsz := HNM.out i hlt
      have HNi := Lib.hid hNi
      have HPO : Hid (pout P L from_ sec i' = R ++ plin P L from_ sec i) := by show _ = _; rw [hi', HR.out]; rfl
      have HLT := Lib.hid hlt
      have HGS : Hid (perr P L from_ sec i = 0 → ∀ j, j < i' → perr P L from_ sec j = 0) := fun h j hj => by
        rcases Nat.lt_or_ge j i with g | g
        · exact HG.out j g
        · have : j = i := by omega
          rw [this]; exact h
      obtain ⟨er, her⟩ : ∃ z, z = perr P L from_ sec i := ⟨_, rfl⟩
      have sc := fun w hE hT => tcheck (P.Nm i) (P.Nd i) (P.Ev i) (P.Vol i) (P.Tot i) (by unfold maxLen; omega) (by unfold maxLen; omega) (L.A i) (L.N i) (L.C i) (L.E i) from_ sec (by omega) w hE hT er her
      have SC := Lib.hid sc
      obtain ⟨F, hF⟩ : ∃ z, z = pfnd P L from_ sec i := ⟨_, rfl⟩
      have hFc : F = chkL (validB (P.Nm i) (P.Nd i) (P.Ev i) (P.Vol i) (P.Tot i) = true) (L.E i) (L.N i) from_ sec (P.Ev i) (P.Vol i) (P.Tot i) := hF
      have HF := Lib.hid hFc
      clear hFc
      have hF60 : F.length ≤ 60 := by rw [hF]; exact pfnd_len P L from_ sec i hNi
      have HF60 := Lib.hid hF60
      have HFM : Hid (∀ j, j < F.length → (fK F j = 1 ∨ fK F j = 2 ∨ fK F j = 3) ∧ 0 ≤ fV F j ∧ fV F j ≤ 9999) := by show ∀ j, _; rw [hF]; exact fun j hj => fnd_at hNi hj
      have HPN : Hid (∀ j, j < F.length → part P L from_ sec i (j + 1) = part P L from_ sec i j ++ [fline (P.Nm i) (P.Nd i) (fK F j, fV F j)]) := by show ∀ j, _; rw [hF]; exact fun j hj => part_succ P L from_ sec hj
      have HP0 : Hid (F.length = 0 → plin P L from_ sec i = [kline (P.Nm i) (P.Nd i)]) := by show _ → _; rw [hF]; exact part_none P L from_ sec
      have HP1 : Hid (0 < F.length → part P L from_ sec i F.length = plin P L from_ sec i) := by show _ → _; rw [hF]; exact part_all P L from_ sec
      have HPL : Hid (∀ j, (part P L from_ sec i j).length ≤ 60) := fun j => part_len P L from_ sec i j hNi
      have HPZ : Hid (part P L from_ sec i 0 = []) := rfl
      have HER := Lib.hid her
      generalize P.Nm i = nm at c0 SC hsz HPN HP0 HF
      generalize P.Nd i = nd at c1 SC hsz HPN HP0 HF
      generalize P.Ev i = ev at c2 SC HF
      generalize P.Vol i = vol at c3 SC HF
      generalize P.Tot i = tot at c4 SC HF
      have HSZ := Lib.hid hsz
      have hb1' := hb1
      clear hi' hlt hev hNi hsz her sc hF hF60 hnc
      go_upto_region 10 with fail
      have HBG := Lib.hid (Blk.new wr 87 #[.string nm, .string nd, .int .i64 ev, .int .i64 vol, .int .i64 tot])
      have hal : Below wr.heap.size wr (wr.alloc (Obj.cells #[.string nm, .string nd, .int .i64 ev, .int .i64 vol, .int .i64 tot] 87)) := (Below.refl _ wr).alloc (Nat.le_refl _) _
      have HQ4 := Lib.hid (HQ.out.call hal)
      have HEV4 := Lib.hid (HEV.out.below (Nat.le_refl _) hal)
      have e4 := (hal.cell (p := ⟨b2, off2 + i, none⟩) hb2).trans e0
      generalize wr.alloc (Obj.cells #[.string nm, .string nd, .int .i64 ev, .int .i64 vol, .int .i64 tot] 87) = w4 at HBG HQ4 HEV4 e4 ⊢
      generalize wr.heap.size = G at HBG ⊢
      clear hal c0 c1 c2 c3 c4 e0 hb1 hb2 HEV hb1'
      have HE4 : Hid (Env5 w4) := HE.out.below (below_step HW1.out HQ4.out.2)
      obtain ⟨p0, p1, p2, p3, p4⟩ := perm_cells HBG.out
      by_cases hz : er = 0
      case neg =>
        have HRE : Hid (RepIs P L from_ sec m m [] er) := .inr (.inr ⟨rfl, by have := H10.out; omega, .inl ⟨i, HLT.out, HG.out, by rw [← HER.out]; exact hz, rfl, HER.out⟩⟩)
        have t5 : (er == 0) = false := by simpa using hz
        have t6 : (er != 0) = true := by simpa using hz
        clear hz
        go_region_held3 (fun w' => w'.cell? ⟨G, 0, none⟩ = some (.string nm) ∧ w'.cell? ⟨G, 1, none⟩ = some (.string nd) ∧ w'.cell? ⟨G, 2, none⟩ = some (.int .i64 ev) ∧ w'.cell? ⟨G, 3, none⟩ = some (.int .i64 vol) ∧ w'.cell? ⟨G, 4, none⟩ = some (.int .i64 tot) ∧ w'.cell? ⟨b2, off2 + i, none⟩ = some (.slice (L.A i) (L.N i) (L.C i))) (first | exact ⟨p0, p1, p2, p3, p4, e4⟩ | exact ⟨z0, z1, z2, z3, z4, z5⟩) (first
          | (go_at_call 46
             with_reducible refine (SC.out _ ?_ ?_).mono ?_
             focus (exact HE4.out.env.below ((Below.refl _ w4).drew))
             focus (exact HEV4.out.below (Nat.le_refl _) ((Below.refl _ w4).drew))
             rintro e w5 ⟨A3, N3, c3, rfl, hN3, hF3, hb5⟩
             have hb5' : Below w4.heap.size w4 w5 := ((Below.refl _ w4).drew).trans hb5
             have HQ5 := Lib.hid (HQ4.out.call hb5')
             have HB5 := Lib.hid hb5'
             have HN3 : Hid (N3 = F.length) := by show _ = _; rw [HF.out]; exact hN3
             have HFI5 : Hid (FndIn w5 A3 F) := by show FndIn _ _ _; rw [HF.out]; exact hF3
             obtain ⟨z0, z1, z2, z3, z4⟩ := perm_cells (HBG.out.call hb5')
             have z5 := (hb5'.cell (p := ⟨b2, off2 + i, none⟩) (World.block_lt_of_cell? w4 _ e4)).trans e4
             clear hN3 hF3 hb5 hb5'))
        go_wp2_with fail
        go_ret2
        exact rep_nil HRE.out (below_step HW1.out HQ5.out.2)
      case pos =>
        subst hz
        by_cases hF0 : F.length = 0
        case pos =>
          have HFZ := Lib.hid hF0
          have SK : Hid (∀ (g cc : Nat) (w : World), Env5 w → ItAt w g 0 3 (itK nm nd) → Calls Tryz.prog 70 #[.slice (some ⟨g, 0, none⟩) 3 cc] w fun e w' => e = .returned (.string (kline nm nd)) ∧ Below w.heap.size w w') := fun g cc w hE h => tline g 0 3 cc (itK nm nd) (by omega) (fun k hk => by
            have h1 := HSZ.out
            have hk' : k = 0 ∨ k = 1 ∨ k = 2 := by omega
            rcases hk' with rfl | rfl | rfl
            · exact Nat.le_trans h1.1 (by omega)
            · exact Nat.le_trans h1.2 (by omega)
            · show wKp.size ≤ 600; decide) w hE h
          have HPX : Hid (pout P L from_ sec i' = R ++ [kline nm nd]) := by show _ = _; rw [HPO.out, HP0.out HFZ.out]
          clear hF0
          go_region_held3 (fun w' => w'.cell? ⟨G, 0, none⟩ = some (.string nm) ∧ w'.cell? ⟨G, 1, none⟩ = some (.string nd) ∧ w'.cell? ⟨G, 2, none⟩ = some (.int .i64 ev) ∧ w'.cell? ⟨G, 3, none⟩ = some (.int .i64 vol) ∧ w'.cell? ⟨G, 4, none⟩ = some (.int .i64 tot) ∧ w'.cell? ⟨b2, off2 + i, none⟩ = some (.slice (L.A i) (L.N i) (L.C i))) (first | exact ⟨p0, p1, p2, p3, p4, e4⟩ | exact ⟨z0, z1, z2, z3, z4, z5⟩) (first
            | (go_at_call 46
               with_reducible refine (SC.out _ ?_ ?_).mono ?_
               focus (exact HE4.out.env.below ((Below.refl _ w4).drew))
               focus (exact HEV4.out.below (Nat.le_refl _) ((Below.refl _ w4).drew))
               rintro e w5 ⟨A3, N3, c3, rfl, hN3, hF3, hb5⟩
               have hb5' : Below w4.heap.size w4 w5 := ((Below.refl _ w4).drew).trans hb5
               have HQ5 := Lib.hid (HQ4.out.call hb5')
               have HB5 := Lib.hid hb5'
               have HN3 : Hid (N3 = F.length) := by show _ = _; rw [HF.out]; exact hN3
               have HFI5 : Hid (FndIn w5 A3 F) := by show FndIn _ _ _; rw [HF.out]; exact hF3
               obtain ⟨z0, z1, z2, z3, z4⟩ := perm_cells (HBG.out.call hb5')
               have z5 := (hb5'.cell (p := ⟨b2, off2 + i, none⟩) (World.block_lt_of_cell? w4 _ e4)).trans e4
               clear hN3 hF3 hb5 hb5'))
          obtain rfl : N3 = 0 := HN3.out.trans HFZ.out
          have HE5 : Hid (Env5 w5) := HE.out.below (below_step HW1.out HQ5.out.2)
          clear p0 p1 p2 p3 p4
          generalize hkl : kline nm nd = kl at SK HPX
          clear hkl
          go_wp2_with (first
            | (go_at_call 70
               with_reducible refine (SK.out _ _ _ ?_ ?_).mono ?_
               focus (exact HE5.out.below ((Below.refl _ w5).alloc (Nat.le_refl _) _))
               focus (exact itK_at (Blk.new _ _ _))
               rintro e w6 ⟨rfl, hb6⟩
               have HQ6 := Lib.hid (HQ5.out.call (((Below.refl _ w5).alloc (Nat.le_refl _) _).trans (hb6.mono (by simp))))
               clear hb6)
            | (at_builtin; refine wpList_append_own_at _ ?kaa (.tmp 51) (.tmp 61) 27 ?kab (w1.heap.size) 9 SI0 (.string ByteArray.empty) 1 16 Tryz.underlying27 SI1.out SI2.out SI3.out SI4.out ?kac ?kad (.slice A8 N cap8) (N) (sc R) ?kae (HQ6.out.1.alloc _) (⟨w6.heap.size, 0, none⟩) (1) (1) ([.string (kl)]) ?kag (rfl) (World.news_of_block (cs := #[.string (kl)]) (t := 9) (fr := (0, 0)) (heap_alloc_new _ _)) ((by simp [Value.oneCell'])) (h63_k HN2.out) (hby_k HN2.out) (Nat.le_trans HQ6.out.2.size (by simp)) ?kah
               case kaa => exact rfl
               case kab => exact rfl
               case kac => exact rfl
               case kad => decide
               case kae => exact rfl
               case kag => exact rfl
               intro v2 w7 hown2 hgrow2 hnil2 hat2
               have HM7 := Lib.hid (HQ6.out.app hown2 hgrow2)
               clear hown2 hgrow2 hnil2 hat2))
          go_loopw [11, 65] (fun u v wr => v = .int .i64 0 ∧ u = v2 ∧ Hid (RMem5 w1 wr u (N + 1) (R ++ [kl]))) (fun _ _ _ => 0)
          case atStart => exact ⟨rfl, rfl, HM7⟩
          case round =>
            obtain ⟨rfl, rfl, HZ⟩ := hrel
            go_wp2_with fail
            go_roundw
            case rel => exact ⟨i', N + 1, R ++ [kl], HI', rfl, HGS.out HER.out.symm, HPX.out.symm, by show N + 1 = _; rw [List.length_append, HN.out]; rfl, HZ⟩
            case measure => exact HMS.out
        case neg =>
          have HFP : Hid (0 < F.length) := by show 0 < F.length; omega
          have SF : Hid (∀ (g cc : Nat) (kk vv : Int) (w : World), 0 ≤ vv → vv ≤ 9999 → Env5 w → ItAt w g 0 4 (itF nm nd (kk, vv)) → Calls Tryz.prog 70 #[.slice (some ⟨g, 0, none⟩) 4 cc] w fun e w' => e = .returned (.string (fline nm nd (kk, vv))) ∧ Below w.heap.size w w') := fun g cc kk vv w v0 v1 hE h => tline g 0 4 cc (itF nm nd (kk, vv)) (by omega) (fun k hk => by
            have h1 := HSZ.out
            have hk' : k = 0 ∨ k = 1 ∨ k = 2 ∨ k = 3 := by omega
            rcases hk' with rfl | rfl | rfl | rfl
            · exact Nat.le_trans h1.1 (by omega)
            · exact Nat.le_trans h1.2 (by omega)
            · exact Nat.le_trans (word_size kk) (by omega)
            · exact Nat.le_trans (fnm_small v0 v1) (by omega)) w hE h
          have t7 : (F.length == 0) = false := by simpa using hF0
          have t8 : ((F.length : Int) == 0) = false := by rw [beq_eq_false_iff_ne]; omega
          clear hF0
          go_region_held3 (fun w' => w'.cell? ⟨G, 0, none⟩ = some (.string nm) ∧ w'.cell? ⟨G, 1, none⟩ = some (.string nd) ∧ w'.cell? ⟨G, 2, none⟩ = some (.int .i64 ev) ∧ w'.cell? ⟨G, 3, none⟩ = some (.int .i64 vol) ∧ w'.cell? ⟨G, 4, none⟩ = some (.int .i64 tot) ∧ w'.cell? ⟨b2, off2 + i, none⟩ = some (.slice (L.A i) (L.N i) (L.C i))) (first | exact ⟨p0, p1, p2, p3, p4, e4⟩ | exact ⟨z0, z1, z2, z3, z4, z5⟩) (first
            | (go_at_call 46
               with_reducible refine (SC.out _ ?_ ?_).mono ?_
               focus (exact HE4.out.env.below ((Below.refl _ w4).drew))
               focus (exact HEV4.out.below (Nat.le_refl _) ((Below.refl _ w4).drew))
               rintro e w5 ⟨A3, N3, c3, rfl, hN3, hF3, hb5⟩
               have hb5' : Below w4.heap.size w4 w5 := ((Below.refl _ w4).drew).trans hb5
               have HQ5 := Lib.hid (HQ4.out.call hb5')
               have HB5 := Lib.hid hb5'
               have HN3 : Hid (N3 = F.length) := by show _ = _; rw [HF.out]; exact hN3
               have HFI5 : Hid (FndIn w5 A3 F) := by show FndIn _ _ _; rw [HF.out]; exact hF3
               obtain ⟨z0, z1, z2, z3, z4⟩ := perm_cells (HBG.out.call hb5')
               have z5 := (hb5'.cell (p := ⟨b2, off2 + i, none⟩) (World.block_lt_of_cell? w4 _ e4)).trans e4
               clear hN3 hF3 hb5 hb5'))
          obtain rfl : N3 = F.length := HN3.out
          generalize hgN : F.length = N3 at t7 t8 HFP HF60 HFM HPN HP1 ⊢
          have HKP : Hid (KeepP w5 G nm nd ev vol tot A3 F) := ⟨HBG.out.call HB5.out, HFI5.out⟩
          have HFN : Hid (F.length = N3) := hgN
          clear p0 p1 p2 p3 p4 hgN HN3 z0 z1 z2 z3 z4 e4 z5
          go_wp2_with fail
          go_loopw [11, 65] (fun u v wr => ∃ (j M : Nat) (Q : List ByteArray), Hid (j ≤ N3) ∧ v = .int .i64 j ∧ Hid (Q = R ++ part P L from_ sec i j) ∧ Hid (M = Q.length) ∧ Hid (RMem5 w1 wr u M Q) ∧ Hid (KeepP wr G nm nd ev vol tot A3 F)) (fun _ v _ => N3 - (RowKit.intOf v).toNat)
          case atStart => exact ⟨0, N, R, Nat.zero_le _, rfl, by show R = _; rw [HPZ.out, List.append_nil], HN, HQ5, HKP⟩
          case round =>
            obtain ⟨j, M, Q, Hj, rfl, HRj, HMj, HZ, HKZ⟩ := hrel
            obtain ⟨A9, cap9, h9⟩ := HZ.out.form
            subst h9
            have HM2 : Hid (M ≤ 2000) := by
              show M ≤ 2000
              have h1 := HMj.out; have h2 := HPL.out j; have h3 := HN6.out; have h4 := Hi.out; have h5 := H10.out; have h6 := HN.out
              rw [HRj.out, List.length_append] at h1
              omega
            by_cases hjt : j < N3
            · have T1 : decide ((j : Int) < (N3 : Int)) = true := by simp <;> omega
              have T1' : decide (j < N3) = true := decide_eq_true hjt
              obtain ⟨j', hj'⟩ : ∃ z, z = j + 1 := ⟨_, rfl⟩
              have x1 : IntKind.i64.wrap ((j : Int) + 1) = (j' : Int) := by have := HF60.out; rw [IntKind.wrap_i64]; omega
              have HJ' : Hid (j' ≤ N3) := by show j' ≤ N3; omega
              have HMS2 : Hid (N3 - (RowKit.intOf (Value.int .i64 (j' : Int))).toNat < N3 - (RowKit.intOf (Value.int .i64 (j : Int))).toNat) := by show _ < _; simp [RowKit.intOf]; omega
              have m0 : (0 : Int) ≤ (j : Int) := by omega
              have m1 : (j : Int) < (N3 : Int) := by omega
              obtain ⟨fb, foff, rfl, hfb, f0, f1⟩ := HKZ.out.2.at (k := j) (by rw [HFN.out]; exact hjt)
              obtain ⟨hk3, hv0, hv1⟩ := HFM.out j hjt
              have hpn := HPN.out j hjt
              generalize fV F j = vv at f1 hv0 hv1 hpn
              obtain ⟨q, hq⟩ : ∃ q : Nat, fK F j = (q : Int) := ⟨(fK F j).toNat, by omega⟩
              rw [hq] at f0 hk3 hpn
              have hq3 : q = 1 ∨ q = 2 ∨ q = 3 := by omega
              have HQJ : Hid (R ++ part P L from_ sec i j' = Q ++ [fline nm nd ((q : Int), vv)]) := by show _ = _; rw [hj', hpn, ← List.append_assoc, ← HRj.out]
              have HQ3 := Lib.hid hq3
              have q0 : (0 : Int) ≤ (q : Int) := by omega
              have q1 : (q : Int) < 4 := by omega
              have q2 : IntKind.i64.wrap (Int.tmod (q : Int) 4) = (q : Int) := by rw [IntKind.wrap_i64]; rcases hq3 with rfl | rfl | rfl <;> decide
              have q3 : Int.tmod (q : Int) 4 = (q : Int) := by rcases hq3 with rfl | rfl | rfl <;> decide
              have HVV : Hid (0 ≤ vv ∧ vv ≤ 9999) := ⟨hv0, hv1⟩
              clear hj' hjt hk3 hv0 hv1 hpn hq hq3
              go_upto_region 18 with fail
              have HBF := Lib.hid (Blk.new wr 162 #[.int .i64 (q : Int), .string (fnm vv)])
              have hal : Below wr.heap.size wr (wr.alloc (Obj.cells #[.int .i64 (q : Int), .string (fnm vv)] 162)) := (Below.refl _ wr).alloc (Nat.le_refl _) _
              have HZ4 := Lib.hid (HZ.out.call hal)
              have HK4 := Lib.hid (HKZ.out.call hal)
              generalize wr.alloc (Obj.cells #[.int .i64 (q : Int), .string (fnm vv)] 162) = wf at HBF HZ4 HK4 ⊢
              generalize wr.heap.size = Gf at HBF ⊢
              clear hal f0 f1 hfb
              have HE6 : Hid (Env5 wf.drew) := (HE.out.below (below_step HW1.out HZ4.out.2)).below ((Below.refl _ wf).drew)
              have HZd : Hid (RMem5 w1 wf.drew (.slice A9 M cap9) M Q) := HZ4.out.call ((Below.refl _ wf).drew)
              have HKd : Hid (KeepP wf.drew G nm nd ev vol tot (some ⟨fb, foff, none⟩) F) := HK4.out.call ((Below.refl _ wf).drew)
              obtain ⟨s0, s1, _, _, _⟩ := perm_cells HK4.out.1
              have s2 := HBF.out.cell 0
              have s3 := HBF.out.cell 1
              simp only [List.getElem?_toArray, List.getElem?_cons_zero, List.getElem?_cons_succ] at s2 s3
              have s4 := wrd_at (HB1.out.below HZ4.out.2 HB1.out.lt) HQ3.out
              generalize hwq : wordB (q : Int) = wq at s4
              have HWQ : Hid (wq = wordB (q : Int)) := hwq.symm
              clear hwq
              generalize hnv : fnm vv = nv at s3
              have HNV : Hid (nv = fnm vv) := hnv.symm
              clear hnv
              generalize hfl : fline nm nd ((q : Int), vv) = fl at HQJ
              have HFL : Hid (fl = fline nm nd ((q : Int), vv)) := hfl.symm
              clear hfl
              have KS : Hid (∀ w', Below wf.heap.size wf w' → w'.cell? ⟨G, 0, none⟩ = some (.string nm) ∧ w'.cell? ⟨G, 1, none⟩ = some (.string nd) ∧ w'.cell? ⟨Gf, 0, none⟩ = some (.int .i64 (q : Int)) ∧ w'.cell? ⟨Gf, 1, none⟩ = some (.string nv) ∧ w'.cell? ⟨gw, q, none⟩ = some (.string wq)) := fun w' h => ⟨(h.cell (p := ⟨G, 0, none⟩) HK4.out.1.lt).trans s0, (h.cell (p := ⟨G, 1, none⟩) HK4.out.1.lt).trans s1, (h.cell (p := ⟨Gf, 0, none⟩) HBF.out.lt).trans s2, (h.cell (p := ⟨Gf, 1, none⟩) HBF.out.lt).trans s3, (h.cell (p := ⟨gw, q, none⟩) (World.block_lt_of_cell? wf _ s4)).trans s4⟩
              have HBW4 := Lib.hid (HB1.out.below HZ4.out.2 HB1.out.lt)
              go_region_held3 (fun w' => w'.cell? ⟨G, 0, none⟩ = some (.string nm) ∧ w'.cell? ⟨G, 1, none⟩ = some (.string nd) ∧ w'.cell? ⟨Gf, 0, none⟩ = some (.int .i64 (q : Int)) ∧ w'.cell? ⟨Gf, 1, none⟩ = some (.string nv) ∧ w'.cell? ⟨gw, q, none⟩ = some (.string wq)) (first
                | exact ⟨s0, s1, s2, s3, s4⟩
                | exact KS.out _ ((Below.refl _ wf).drew)
                | exact KS.out _ (((Below.refl _ wf).alloc (Nat.le_refl _) _).drew)
                | exact KS.out _ hb7
                | exact KS.out _ (hb7.alloc hb7.size _)
                | exact ⟨y0, y1, y2, y3, y4⟩) (first
                | (go_at_call 70
                   with_reducible refine (SF.out _ _ (q : Int) vv _ HVV.out.1 HVV.out.2 ?_ ?_).mono ?_
                   focus (exact HE6.out.below ((Below.refl _ wf.drew).alloc (Nat.le_refl _) _))
                   focus (exact itF_at HWQ.out HNV.out (Blk.new _ _ _))
                   rw [← HFL.out]
                   rintro e w6 ⟨rfl, hb6⟩
                   have hbb : Below wf.drew.heap.size wf.drew w6 := ((Below.refl _ wf.drew).alloc (Nat.le_refl _) _).trans (hb6.mono (by simp))
                   have hb7 : Below wf.heap.size wf w6 := ((Below.refl _ wf).drew).trans hbb
                   have HZ6 := Lib.hid (HZ4.out.call hb7)
                   have HK6 := Lib.hid (HK4.out.call hb7)
                   have HBF6 := Lib.hid (HBF.out.call hb7)
                   have HBW6 := Lib.hid (HBW4.out.call hb7)
                   clear hb6 hbb)
                | ((refine step_append_lies _ (by rfl) _ _ _ (by rfl) w1.heap.size 9 SI0 (.string ByteArray.empty) 1 16 Tryz.underlying27 SI1.out SI2.out SI3.out SI4.out rfl (by omega) (.slice A9 M cap9) (M) (sc Q) (by rfl) (HZ6.out.1.alloc _) ⟨w6.heap.size, 0, none⟩ 1 1 [.string (fl)] (by rfl) (by rfl) (World.news_of_block (cs := #[.string (fl)]) (t := 9) (fr := (0, 0)) (heap_alloc_new w6 _)) (by simp [Value.oneCell']) (by omega) (h63_k HM2.out) (hby_k HM2.out) (base_alloc1 HZ6.out.2.size _) (w6.heap.size + 1) (by simp) ?_
                    intro gg capg wA hownA hgrowA hatA hltA
                    have HM7 := Lib.hid (HZ6.out.app hownA hgrowA)
                    have HK7 := Lib.hid (HK6.out.app HZ6.out hgrowA)
                    obtain ⟨y0, y1, _, _, _⟩ := perm_cells HK7.out.1
                    have y2 := (blk_app HBF6.out HZ6.out (by decide) hgrowA).cell 0
                    have y3 : wA.cell? ⟨Gf, 1, none⟩ = some (.string nv) := by rw [HNV.out]; exact (blk_app HBF6.out HZ6.out (by decide) hgrowA).cell 1
                    have y4 := wrd_at (blk_app HBW6.out HZ6.out (by decide) hgrowA) HQ3.out
                    rw [← HWQ.out] at y4
                    clear hownA hgrowA hatA hltA)))
              go_wp2_with fail
              go_roundw
              case rel => exact ⟨j', M + 1, Q ++ [fl], HJ', rfl, HQJ.out.symm, by show M + 1 = _; rw [List.length_append, HMj.out]; rfl, HM7, HK7⟩
              case measure => exact HMS2.out
            · have hjn : j = N3 := by have := Hj.out; omega
              have T1 : decide ((j : Int) < (N3 : Int)) = false := by simp <;> omega
              have T1' : decide (j < N3) = false := decide_eq_false hjt
              have HQX : Hid (pout P L from_ sec i' = Q) := by show _ = _; rw [HPO.out, HRj.out, hjn, ← HP1.out HFP.out]
              clear hjn hjt
              go_wp2_with fail
              go_roundw
              case rel => exact ⟨i', M, Q, HI', rfl, HGS.out HER.out.symm, HQX.out.symm, HMj, HZ⟩
              case measure => exact HMS.out
    · have hin : i = m := by have := Hi.out; omega
      have T0 : decide ((i : Int) < (m : Int)) = false := by simp <;> omega
      have T0' : decide (i < m) = false := decide_eq_false hlt
      have HRE : Hid (RepIs P L from_ sec m m R 0) := .inr (.inr ⟨rfl, by have := H10.out; omega, .inr ⟨by rw [← hin]; exact HG.out, by rw [HR.out, hin], rfl⟩⟩)
      clear hlt hin
      go_wp2_with fail
      go_ret2
      exact HQ.out.rep HW1.out HN.out HN2.out HRE.out
end Go.Proofs.YtfldmnikdejekaaGreatDoor

/- The package's DateOf and Split. -/
import Derived.Test.YtigocjhmgmhocaaGreatDoorDat
import Derived.Deep.RegionLaw
namespace Go.Proofs.YtigocjhmgmhocaaGreatDoor
open Go.RowKit Go.Sort
set_option linter.unusedVariables false
set_option linter.unusedSimpArgs false

theorem tail_bound (lp : Bool) {m : Nat} (h1 : 1 ≤ m) (h2 : m ≤ 12) : tail_ lp m ≤ 400 := by
  rcases twelve h1 h2 with rfl | rfl | rfl | rfl | rfl | rfl | rfl | rfl | rfl | rfl | rfl | rfl <;> cases lp <;> decide
def dmes (g : Nat) (wr : World) : Nat := match wr.cell? ⟨g, 1, none⟩ with
  | some (.int _ m) => (13 - m).toNat
  | _ => 0
theorem dmes_blk {g : Nat} {wr : World} {t : TypeId} {y m k : Int} (h : Blk wr g t #[.int .i64 y, .int .i64 m, .int .i64 k]) : dmes g wr = (13 - m).toNat := by
  have := h.cell 1
  unfold dmes
  rw [this]; rfl
theorem date_cells {w : World} {g : Nat} {t : TypeId} {a b c : Value} (h : Blk w g t #[a, b, c]) : w.cell? ⟨g, 0, none⟩ = some a ∧ w.cell? ⟨g, 1, none⟩ = some b ∧ w.cell? ⟨g, 2, none⟩ = some c := ⟨h.cell 0, h.cell 1, h.cell 2⟩
def DMem (w wr : World) (g G : Nat) (d y m k : Int) : Prop := Blk wr g 3 #[.int .i64 d] ∧ Blk wr (g + 1) 111 #[.int .i64 0, .int .i64 0, .int .i64 0] ∧ Blk wr G 111 #[.int .i64 y, .int .i64 m, .int .i64 k] ∧ g + 1 < G ∧ Below w.heap.size w wr
theorem DMem.new {w w2 : World} {g : Nat} {d y k : Int} (h1 : Blk w2 g 3 #[.int .i64 d]) (h2 : Blk w2 (g + 1) 111 #[.int .i64 0, .int .i64 0, .int .i64 0]) (hW : Below w.heap.size w w2) : DMem w ((w2.alloc (Obj.cells #[.int .i64 y, .int .i64 1, .int .i64 k] 111)).drew) g w2.heap.size d y 1 k :=
  ⟨h1.alloc _, h2.alloc _, Blk.new _ _ _, h2.lt, (hW.alloc hW.size _).drew⟩
theorem DMem.call {w wr w' : World} {g G : Nat} {d y m k : Int} (h : DMem w wr g G d y m k) (hb : Below wr.heap.size wr w') : DMem w w' g G d y m k := ⟨h.1.call hb, h.2.1.call hb, h.2.2.1.call hb, h.2.2.2.1, below_step h.2.2.2.2 hb⟩
theorem DMem.setk {w wr : World} {g G : Nat} {d y m k k' : Int} (hg : w.heap.size ≤ g) (h : DMem w wr g G d y m k) : DMem w (wr.setCell ⟨G, 2, none⟩ (.int .i64 k')) g G d y m k' :=
  ⟨h.1.far (by have := h.2.2.2.1; show g ≠ G; omega) _, h.2.1.far (by have := h.2.2.2.1; show g + 1 ≠ G; omega) _, h.2.2.1.set_ 2 _, h.2.2.2.1, h.2.2.2.2.setCell (by have := h.2.2.2.1; show w.heap.size ≤ G; omega) _⟩
theorem DMem.setm {w wr : World} {g G : Nat} {d y m k m' : Int} (hg : w.heap.size ≤ g) (h : DMem w wr g G d y m k) : DMem w (wr.setCell ⟨G, 1, none⟩ (.int .i64 m')) g G d y m' k :=
  ⟨h.1.far (by have := h.2.2.2.1; show g ≠ G; omega) _, h.2.1.far (by have := h.2.2.2.1; show g + 1 ≠ G; omega) _, h.2.2.1.set_ 1 _, h.2.2.2.1, h.2.2.2.2.setCell (by have := h.2.2.2.1; show w.heap.size ≤ G; omega) _⟩
theorem DMem.drew {w wr : World} {g G : Nat} {d y m k : Int} (h : DMem w wr g G d y m k) : DMem w wr.drew g G d y m k := ⟨h.1, h.2.1, h.2.2.1, h.2.2.2.1, h.2.2.2.2.drew⟩
set_option maxRecDepth 100000 in
set_option maxHeartbeats 4000000 in
theorem tdate (d y : Int) (hy : YearIs d y) (w : World) : Calls Tryz.prog 85 #[.int .i64 d] w fun e w' => (∃ m k : Int, e = .returned (.tuple #[.agg #[.int .i64 y, .int .i64 m, .int .i64 k], .int .i64 0])) ∧ Below w.heap.size w w' := by
  have h1 := hy.lo
  have h2 := hy.hi
  have h3 := hy.a
  have h4 := hy.b
  have b1 := yb_le h1
  have b2 := yb_le (show y + 1 ≤ 10000 by omega)
  rw [yb_1] at b1
  rw [yb_10000] at b2
  have S1 : Hid (∀ w, Calls Tryz.prog 110 #[.int .i64 1] w fun e w' => e = .returned (.int .i64 (-730119)) ∧ w = w') := fun w => by
    have := tbefore 1 (by omega) (by omega) w
    rwa [show yb ((1 : Nat) : Int) = -730119 from yb_1] at this
  have S2 : Hid (∀ w, Calls Tryz.prog 110 #[.int .i64 10000] w fun e w' => e = .returned (.int .i64 2921940) ∧ w = w') := fun w => by
    have := tbefore 10000 (by omega) (by omega) w
    rwa [show yb ((10000 : Nat) : Int) = 2921940 from yb_10000] at this
  have t1 : decide (d < -730119) = false := decide_eq_false (by omega)
  have t2 : decide ((2921940 : Int) ≤ d) = false := decide_eq_false (by omega)
  obtain ⟨c, hc⟩ : ∃ c, c = y - 1 := ⟨_, rfl⟩
  have e1 : IntKind.i64.wrap (c + 1) = y := by rw [IntKind.wrap_i64]; omega
  have ss := fun b w hcc hb => tsearch d y hy b w hcc hb
  rw [← hc] at ss
  have SS := Lib.hid ss
  obtain ⟨Y, hY⟩ : ∃ Y : Nat, (Y : Int) = y := ⟨y.toNat, by omega⟩
  have s3 := fun w => tbefore Y (by omega) (by omega) w
  have s4 := fun (m : Nat) m1 m2 w => tmonth Y m (by omega) (by omega) m1 m2 w
  rw [hY] at s3 s4
  have S3 := Lib.hid s3
  have S4 := Lib.hid s4
  obtain ⟨z, hz⟩ : ∃ z, z = yb y := ⟨_, rfl⟩
  obtain ⟨k0, hk0⟩ : ∃ k0, k0 = d - z := ⟨_, rfl⟩
  obtain ⟨k1, hk1⟩ : ∃ k1, k1 = k0 + 1 := ⟨_, rfl⟩
  have e2 : IntKind.i64.wrap (d - z) = k0 := by rw [IntKind.wrap_i64]; omega
  have e3 : IntKind.i64.wrap (k0 + 1) = k1 := by rw [IntKind.wrap_i64]; omega
  have ht := tail_1 y
  rw [← hz] at S3 h3 ht
  have HK : Hid (1 ≤ k1 ∧ k1 ≤ tail_ (leapB y) 1) := by show _ ∧ _; omega
  generalize leapB y = lp at S4 HK
  clear hy h1 h2 h3 h4 b1 b2 hc ss hY s3 s4 hz hk0 hk1 ht
  go_enter Tryz.func85, Tryz.ntmps85
  go_upto_region 1 with fail
  go_cut [13] from 6 to 13 (fun z wx => z = .bool false ∧ Blk wx w.heap.size 3 #[.int .i64 d] ∧ Blk wx (w.heap.size + 1) 111 #[.int .i64 0, .int .i64 0, .int .i64 0] ∧ Below w.heap.size w wx)
  case first =>
    have c1 : (((w.alloc (Obj.cells #[Value.int IntKind.i64 d] 3)).alloc (Obj.cells #[Value.int IntKind.i64 0, Value.int IntKind.i64 0, Value.int IntKind.i64 0] 111))).cell? ⟨w.heap.size, 0, none⟩ = some (.int .i64 d) := by simp [World.cell?_alloc_some]
    have B1 : Hid (Blk ((w.alloc (Obj.cells #[Value.int IntKind.i64 d] 3)).alloc (Obj.cells #[Value.int IntKind.i64 0, Value.int IntKind.i64 0, Value.int IntKind.i64 0] 111)) w.heap.size 3 #[.int .i64 d]) := (Blk.new _ _ _).alloc _
    have B2 : Hid (Blk ((w.alloc (Obj.cells #[Value.int IntKind.i64 d] 3)).alloc (Obj.cells #[Value.int IntKind.i64 0, Value.int IntKind.i64 0, Value.int IntKind.i64 0] 111)) (w.heap.size + 1) 111 #[.int .i64 0, .int .i64 0, .int .i64 0]) := by
      have := Blk.new (w.alloc (Obj.cells #[Value.int IntKind.i64 d] 3)) 111 #[Value.int IntKind.i64 0, Value.int IntKind.i64 0, Value.int IntKind.i64 0]
      rw [show (w.alloc (Obj.cells #[Value.int IntKind.i64 d] 3)).heap.size = w.heap.size + 1 by simp] at this
      exact this
    go_quiet (first | (go_at_call 110; with_reducible exact quiet_left (S1.out _)) | (go_at_call 110; with_reducible exact quiet_left (S2.out _)))
    go_wp2_with fail
    go_meet
    exact ⟨by simp [*], B1.out.drewN _, B2.out.drewN _, by (repeat' (first | assumption | exact Below.refl _ _ | exact Below.size (by assumption) | (refine Below.setCell ?_ ?_ _) | (refine Below.alloc ?_ ?_ _) | (refine Below.drew ?_) | (refine below_drewN ?_ _) | (refine Below.trans ?_ (Below.mono ‹Below _ _ _› ?_)) | omega | (simp; done) | (simp; omega) | (simp at *; omega)))⟩
  case rest =>
    obtain ⟨rfl, hb1, hb2, hbw⟩ := hcut
    generalize wc = wx at hb1 hb2 hbw ⊢
    have hn := hb1.cell 0
    simp only [List.getElem?_toArray, List.getElem?_cons_zero] at hn
    have hl := hb1.lt
    have HB1 := Lib.hid hb1
    have HB2 := Lib.hid hb2
    have HBW := Lib.hid hbw
    clear hb1 hb2 hbw
    go_upto_region 4 with (first
      | (go_at_call 111
         with_reducible refine (SS.out _ _ hn hl).mono ?_
         rintro e w2 ⟨rfl, hs2⟩
         have HC1 := Lib.hid (HB1.out.call hs2)
         have HC2 := Lib.hid (HB2.out.call hs2)
         have HCW := Lib.hid (below_step HBW.out hs2)
         have hn2 := HC1.out.cell 0
         simp only [List.getElem?_toArray, List.getElem?_cons_zero] at hn2
         clear hs2))
    go_cut [5] from 18 to 24 (fun s wy => ∃ G : Nat, s = .pointer (some ⟨G, 0, none⟩) ∧ DMem w wy w.heap.size G d y 1 k1)
    case first =>
      go_region_held3 (fun w' => w'.cell? ⟨w.heap.size, 0, none⟩ = some (.int .i64 d)) (first | exact hn2 | go_keep) (first
        | (go_at_call 110
           with_reducible refine (S3.out _).mono ?_
           rintro e w' ⟨rfl, rfl⟩))
      all_goals (go_wp2_with fail; go_meet)
      all_goals (exact ⟨_, rfl, DMem.new HC1.out HC2.out HCW.out⟩)
    case rest =>
      obtain ⟨G, rfl, hm0⟩ := hcut
      generalize wc = wy at hm0 ⊢
      have HM0 := Lib.hid hm0
      clear hm0 hn2 hn hl
      go_wp2_with fail
      go_loopw [31] (fun _ wr => ∃ (m : Nat) (k : Int), Hid (1 ≤ m ∧ m ≤ 12 ∧ 1 ≤ k ∧ k ≤ tail_ lp m) ∧ Hid (DMem w wr w.heap.size G d y m k)) (fun _ wr => dmes G wr)
      case atStart => exact ⟨1, k1, ⟨by omega, by omega, HK.out.1, HK.out.2⟩, HM0⟩
      case round =>
        obtain ⟨m, k, Hm, HM⟩ := hrel
        obtain ⟨q0, q1, q2⟩ := date_cells HM.out.2.2.1
        have hlb := lens_bound lp Hm.out.1 Hm.out.2.1
        have hts := tail_step lp Hm.out.1 Hm.out.2.1
        have S5 := Lib.hid fun w => S4.out m Hm.out.1 Hm.out.2.1 w
        obtain ⟨L, hL⟩ : ∃ L, L = lens lp m := ⟨_, rfl⟩
        rw [← hL] at S5 hlb hts
        have HD : Hid (DMem w wr.drew w.heap.size G d y m k) := HM.out.drew
        by_cases hk : L < k
        · have T1 : decide (L < k) = true := decide_eq_true hk
          have hm12 : m < 12 := by
            rcases Nat.lt_or_ge m 12 with h | h
            · exact h
            · obtain rfl : m = 12 := by have := Hm.out.2.1; omega
              have h13 : tail_ lp (12 + 1) = 0 := rfl
              have := Hm.out.2.2.2
              omega
          obtain ⟨k2, hk2⟩ : ∃ k2, k2 = k - L := ⟨_, rfl⟩
          have hkb : k ≤ 400 := by have h1 := Hm.out.2.2.2; have h2 := tail_bound lp Hm.out.1 Hm.out.2.1; omega
          have f1 : IntKind.i64.wrap (k - L) = k2 := by rw [IntKind.wrap_i64]; omega
          obtain ⟨m', hm'⟩ : ∃ m' : Nat, m' = m + 1 := ⟨_, rfl⟩
          have f2 : IntKind.i64.wrap ((m : Int) + 1) = (m' : Int) := by rw [IntKind.wrap_i64]; omega
          have HR : Hid (1 ≤ m' ∧ m' ≤ 12 ∧ 1 ≤ k2 ∧ k2 ≤ tail_ lp m') := by have := Hm.out.2.2.2; rw [hm']; show _ ∧ _; refine ⟨by omega, by omega, by omega, by omega⟩
          have HMM : Hid ((13 - (m' : Int)).toNat < (13 - (m : Int)).toNat) := by show _ < _; omega
          clear hk hm12 hk2 hkb hm' hlb hts hL
          go_upto_region 5 with fail
          go_cut [31] from 25 to 30 (fun z wx => z = .bool true ∧ DMem w wx w.heap.size G d y m k)
          case first =>
            go_region_held3 (fun w' => w'.cell? ⟨G, 1, none⟩ = some (.int .i64 (m : Int)) ∧ w'.cell? ⟨G, 2, none⟩ = some (.int .i64 k)) (first | exact ⟨q1, q2⟩ | exact ⟨z1, z2⟩ | go_keep) (first
              | (go_at_call 113
                 with_reducible refine (S5.out _).mono ?_
                 rintro e w6 ⟨rfl, hb6⟩
                 have HM6 := Lib.hid (HD.out.call hb6)
                 obtain ⟨z0, z1, z2⟩ := date_cells HM6.out.2.2.1
                 have zf := HM6.out.2.2.1.frozen 2
                 clear hb6))
            all_goals (go_wp2_with fail; go_meet)
            all_goals (exact ⟨by simp [*], HM6.out⟩)
          case rest =>
            obtain ⟨rfl, hm1⟩ := hcut
            generalize wc = wz at hm1 ⊢
            obtain ⟨q0, q1, q2⟩ := date_cells hm1.2.2.1
            have HM1 := Lib.hid hm1
            have HD : Hid (DMem w wz.drew w.heap.size G d y m k) := HM1.out.drew
            clear hm1
            go_upto_region 6 with fail
            go_cut [38] from 32 to 39 (fun z wx => z = .int .i64 k2 ∧ DMem w wx w.heap.size G d y m k2)
            case first =>
              go_region_law (go_simp
                             go_at_call 113
                             with_reducible refine (S5.out _).mono ?_
                             rintro e w6 ⟨rfl, hb6⟩
                             have HM6 := Lib.hid (HD.out.call hb6)
                             have zf := HM6.out.2.2.1.frozen 2
                             have zl := HM6.out.2.2.1.lt
                             obtain ⟨z0, z1, z2⟩ := date_cells HM6.out.2.2.1
                             clear hb6)
              all_goals (go_wp2_with fail; go_meet)
              all_goals (exact ⟨by simp [*], HM6.out.setk (Nat.le_refl _)⟩)
            case rest =>
              obtain ⟨rfl, hm2⟩ := hcut
              generalize wc = wv at hm2 ⊢
              obtain ⟨q0, q1, q2⟩ := date_cells hm2.2.2.1
              have HM2 := Lib.hid hm2
              have hfr := hm2.2.2.1.frozen 1
              clear hm2
              go_wp2_with fail
              have HM3 := Lib.hid (HM2.out.setm (m' := m') (Nat.le_refl _))
              go_roundw
              case rel => exact ⟨m', k2, HR, HM3⟩
              case measure => rw [dmes_blk HM3.out.2.2.1, dmes_blk HM.out.2.2.1]; exact HMM.out
        · have T1 : decide (L < k) = false := decide_eq_false hk
          clear hk hlb hts hL
          go_upto_region 5 with fail
          go_cut [31] from 25 to 30 (fun z wx => z = .bool false ∧ DMem w wx w.heap.size G d y m k)
          case first =>
            go_region_held3 (fun w' => w'.cell? ⟨G, 1, none⟩ = some (.int .i64 (m : Int)) ∧ w'.cell? ⟨G, 2, none⟩ = some (.int .i64 k)) (first | exact ⟨q1, q2⟩ | exact ⟨z1, z2⟩ | go_keep) (first
              | (go_at_call 113
                 with_reducible refine (S5.out _).mono ?_
                 rintro e w6 ⟨rfl, hb6⟩
                 have HM6 := Lib.hid (HD.out.call hb6)
                 obtain ⟨z0, z1, z2⟩ := date_cells HM6.out.2.2.1
                 have zf := HM6.out.2.2.1.frozen 2
                 clear hb6))
            all_goals (go_wp2_with fail; go_meet)
            all_goals (exact ⟨by simp [*], HM6.out⟩)
          case rest =>
            obtain ⟨rfl, hm1⟩ := hcut
            generalize wc = wz at hm1 ⊢
            obtain ⟨q0, q1, q2⟩ := date_cells hm1.2.2.1
            obtain ⟨r0, r1, r2⟩ := date_cells hm1.2.1
            have HM1 := Lib.hid hm1
            have hgl := hm1.2.2.2.1
            have r3 := hm1.2.1.frozen 0
            have r4 := hm1.2.1.frozen 1
            have r5 := hm1.2.1.frozen 2
            have A0 : Blk (wz.setCell ⟨w.heap.size + 1, 0, none⟩ (.int .i64 y)) (w.heap.size + 1) 111 #[.int .i64 y, .int .i64 0, .int .i64 0] := hm1.2.1.set_ 0 _
            have A1 : Blk ((wz.setCell ⟨w.heap.size + 1, 0, none⟩ (.int .i64 y)).setCell ⟨w.heap.size + 1, 1, none⟩ (.int .i64 (m : Int))) (w.heap.size + 1) 111 #[.int .i64 y, .int .i64 (m : Int), .int .i64 0] := A0.set_ 1 _
            have hz : Blk (((wz.setCell ⟨w.heap.size + 1, 0, none⟩ (.int .i64 y)).setCell ⟨w.heap.size + 1, 1, none⟩ (.int .i64 (m : Int))).setCell ⟨w.heap.size + 1, 2, none⟩ (.int .i64 k)) (w.heap.size + 1) 111 #[.int .i64 y, .int .i64 (m : Int), .int .i64 k] := A1.set_ 2 _
            have hB := HM1.out.2.2.2.2
            have hBz : Below w.heap.size w (((wz.setCell ⟨w.heap.size + 1, 0, none⟩ (.int .i64 y)).setCell ⟨w.heap.size + 1, 1, none⟩ (.int .i64 (m : Int))).setCell ⟨w.heap.size + 1, 2, none⟩ (.int .i64 k)) := by (repeat' (first | assumption | exact Below.refl _ _ | exact Below.size (by assumption) | (refine Below.setCell ?_ ?_ _) | (refine Below.alloc ?_ ?_ _) | (refine Below.drew ?_) | (refine below_drewN ?_ _) | (refine Below.trans ?_ (Below.mono ‹Below _ _ _› ?_)) | omega | (simp; done) | (simp; omega) | (simp at *; omega)))
            have HZ := Lib.hid hz
            have HBZ := Lib.hid hBz
            clear hm1 A0 A1 hz hB hBz
            go_wp2_with fail
            have HZ' := HZ.out
            have HBZ' := HBZ.out
            clear HZ HBZ r0 r1 r2 r3 r4 r5
            generalize (((wz.setCell ⟨w.heap.size + 1, 0, none⟩ (.int .i64 y)).setCell ⟨w.heap.size + 1, 1, none⟩ (.int .i64 (m : Int))).setCell ⟨w.heap.size + 1, 2, none⟩ (.int .i64 k)) = wq at HZ' HBZ' ⊢
            obtain ⟨s0, s1, s2⟩ := date_cells HZ'
            refine bodyPost_ret (v := .tuple #[.agg #[.int .i64 y, .int .i64 (m : Int), .int .i64 k], .int .i64 0]) (by simp [results, Tryz.results85, go_sem, *]) rfl ⟨⟨_, _, rfl⟩, HBZ'⟩
end Go.Proofs.YtigocjhmgmhocaaGreatDoor

/- The package's Split, and the year of an instant. -/
import Derived.Test.YtigocjhmgmhocaaGreatDoorDateT
namespace Go.Proofs.YtigocjhmgmhocaaGreatDoor
open Go.RowKit Go.Sort
set_option linter.unusedVariables false
set_option linter.unusedSimpArgs false

theorem tinst (t : Int) (w : World) : Calls Tryz.prog 83 #[.int .i64 t] w fun e w' => e = .returned (.bool (decide (InstP t))) ∧ w = w' := by
  obtain ⟨b, hb⟩ : ∃ b, b = decide (InstP t) := ⟨_, rfl⟩
  rw [← hb]
  by_cases h1 : -68719476736 ≤ t
  · by_cases h2 : t ≤ 68719476736
    · have t1 : decide ((-68719476736 : Int) ≤ t) = true := decide_eq_true h1
      have t2 : decide (t ≤ (68719476736 : Int)) = true := decide_eq_true h2
      obtain rfl : b = true := by rw [hb]; exact decide_eq_true ⟨h1, h2⟩
      clear hb h1 h2
      go_enter Tryz.func83, Tryz.ntmps83
      go_wp2_with fail
      go_ret
      exact ⟨rfl, rfl⟩
    · have t1 : decide ((-68719476736 : Int) ≤ t) = true := decide_eq_true h1
      have t2 : decide (t ≤ (68719476736 : Int)) = false := decide_eq_false h2
      obtain rfl : b = false := by rw [hb]; exact decide_eq_false (fun h => h2 h.2)
      clear hb h1 h2
      go_enter Tryz.func83, Tryz.ntmps83
      go_wp2_with fail
      go_ret
      exact ⟨rfl, rfl⟩
  · have t1 : decide ((-68719476736 : Int) ≤ t) = false := decide_eq_false h1
    obtain rfl : b = false := by rw [hb]; exact decide_eq_false (fun h => h1 h.1)
    clear hb h1
    go_enter Tryz.func83, Tryz.ntmps83
    go_wp2_with fail
    go_ret
    exact ⟨rfl, rfl⟩
theorem floor_facts (t : Int) (h : InstP t) : ∃ q r n : Int, Int.tdiv t 86400 = q ∧ IntKind.i64.wrap q = q ∧ Int.tmod t 86400 = r ∧ n = t / 86400 ∧ ((decide (r < 0) = true ∧ IntKind.i64.wrap (q - 1) = n) ∨ (decide (r < 0) = false ∧ q = n)) ∧ IntKind.i64.wrap (q * 86400) = q * 86400 ∧ IntKind.i64.wrap (t - q * 86400) = r := by
  have h1 := Int.tmod_add_mul_tdiv t 86400
  unfold InstP at h
  have hb : -86400 < Int.tmod t 86400 ∧ Int.tmod t 86400 < 86400 ∧ (0 ≤ t → 0 ≤ Int.tmod t 86400) ∧ (t ≤ 0 → Int.tmod t 86400 ≤ 0) := by
    rcases Int.le_total 0 t with h0 | h0
    · have a := Int.tmod_nonneg 86400 h0
      have b := Int.tmod_lt_of_pos t (show (0 : Int) < 86400 by omega)
      refine ⟨by omega, b, fun _ => a, fun h => ?_⟩
      obtain rfl : t = 0 := by omega
      decide
    · have a := Int.tmod_nonneg 86400 (show 0 ≤ -t by omega)
      have b := Int.tmod_lt_of_pos (-t) (show (0 : Int) < 86400 by omega)
      rw [Int.neg_tmod] at a b
      refine ⟨by omega, by omega, fun h => ?_, fun _ => by omega⟩
      obtain rfl : t = 0 := by omega
      decide
  generalize Int.tmod t 86400 = r at h1 hb
  generalize Int.tdiv t 86400 = q at h1
  refine ⟨q, r, t / 86400, rfl, by rw [IntKind.wrap_i64]; omega, rfl, rfl, ?_, by rw [IntKind.wrap_i64]; omega, by rw [IntKind.wrap_i64]; omega⟩
  by_cases hr : r < 0
  · exact .inl ⟨decide_eq_true hr, by rw [IntKind.wrap_i64]; omega⟩
  · exact .inr ⟨decide_eq_false hr, by omega⟩
theorem tfloor (t : Int) (h : InstP t) (w : World) : Calls Tryz.prog 84 #[.int .i64 t, .int .i64 86400] w fun e w' => e = .returned (.int .i64 (t / 86400)) ∧ w = w' := by
  obtain ⟨q, r, n, e1, e2, e3, hn, hc, e4, e5⟩ := floor_facts t h
  rw [← hn]
  clear h hn e4 e5
  rcases hc with ⟨t1, e6⟩ | ⟨t1, rfl⟩
  · go_enter Tryz.func84, Tryz.ntmps84
    go_wp2_with fail
    go_ret
    exact ⟨rfl, rfl⟩
  · go_enter Tryz.func84, Tryz.ntmps84
    go_wp2_with fail
    go_ret
    exact ⟨rfl, rfl⟩
set_option maxRecDepth 100000 in
set_option maxHeartbeats 4000000 in
theorem tdate_low (d : Int) (h : d < -730119) (w : World) : Calls Tryz.prog 85 #[.int .i64 d] w fun e w' => e = .returned (.tuple #[.agg #[.int .i64 0, .int .i64 0, .int .i64 0], .int .i64 2]) ∧ Below w.heap.size w w' := by
  have S1 : Hid (∀ w, Calls Tryz.prog 110 #[.int .i64 1] w fun e w' => e = .returned (.int .i64 (-730119)) ∧ w = w') := fun w => by
    have := tbefore 1 (by omega) (by omega) w
    rwa [show yb ((1 : Nat) : Int) = -730119 from yb_1] at this
  have t1 : decide (d < -730119) = true := decide_eq_true h
  clear h
  go_enter Tryz.func85, Tryz.ntmps85
  go_upto_region 1 with fail
  go_cut [13] from 6 to 13 (fun z wx => z = .bool true ∧ Blk wx (w.heap.size + 1) 111 #[.int .i64 0, .int .i64 0, .int .i64 0] ∧ Below w.heap.size w wx)
  case first =>
    have c1 : (((w.alloc (Obj.cells #[Value.int IntKind.i64 d] 3)).alloc (Obj.cells #[Value.int IntKind.i64 0, Value.int IntKind.i64 0, Value.int IntKind.i64 0] 111))).cell? ⟨w.heap.size, 0, none⟩ = some (.int .i64 d) := by simp [World.cell?_alloc_some]
    have B2 : Hid (Blk ((w.alloc (Obj.cells #[Value.int IntKind.i64 d] 3)).alloc (Obj.cells #[Value.int IntKind.i64 0, Value.int IntKind.i64 0, Value.int IntKind.i64 0] 111)) (w.heap.size + 1) 111 #[.int .i64 0, .int .i64 0, .int .i64 0]) := by
      have := Blk.new (w.alloc (Obj.cells #[Value.int IntKind.i64 d] 3)) 111 #[Value.int IntKind.i64 0, Value.int IntKind.i64 0, Value.int IntKind.i64 0]
      rw [show (w.alloc (Obj.cells #[Value.int IntKind.i64 d] 3)).heap.size = w.heap.size + 1 by simp] at this
      exact this
    go_quiet ((go_at_call 110; with_reducible exact quiet_left (S1.out _)))
    go_wp2_with fail
    go_meet
    exact ⟨by simp [*], B2.out.drewN _, by (repeat' (first | assumption | exact Below.refl _ _ | exact Below.size (by assumption) | (refine Below.setCell ?_ ?_ _) | (refine Below.alloc ?_ ?_ _) | (refine Below.drew ?_) | (refine below_drewN ?_ _) | (refine Below.trans ?_ (Below.mono ‹Below _ _ _› ?_)) | omega | (simp; done) | (simp; omega) | (simp at *; omega)))⟩
  case rest =>
    obtain ⟨rfl, hb2, hbw⟩ := hcut
    generalize wc = wz at hb2 hbw ⊢
    have r3 := hb2.frozen 0
    have r4 := hb2.frozen 1
    have r5 := hb2.frozen 2
    have hz : Blk (((wz.setCell ⟨w.heap.size + 1, 0, none⟩ (.int .i64 0)).setCell ⟨w.heap.size + 1, 1, none⟩ (.int .i64 0)).setCell ⟨w.heap.size + 1, 2, none⟩ (.int .i64 0)) (w.heap.size + 1) 111 #[.int .i64 0, .int .i64 0, .int .i64 0] := ((hb2.set_ 0 _).set_ 1 _).set_ 2 _
    obtain ⟨q0, q1, q2⟩ := date_cells hb2
    have hgz := hb2.lt
    have hBz : Below w.heap.size w (((wz.setCell ⟨w.heap.size + 1, 0, none⟩ (.int .i64 0)).setCell ⟨w.heap.size + 1, 1, none⟩ (.int .i64 0)).setCell ⟨w.heap.size + 1, 2, none⟩ (.int .i64 0)) := by (repeat' (first | assumption | exact Below.refl _ _ | exact Below.size (by assumption) | (refine Below.setCell ?_ ?_ _) | (refine Below.alloc ?_ ?_ _) | (refine Below.drew ?_) | (refine below_drewN ?_ _) | (refine Below.trans ?_ (Below.mono ‹Below _ _ _› ?_)) | omega | (simp; done) | (simp; omega) | (simp at *; omega)))
    have HZ := Lib.hid hz
    have HBZ := Lib.hid hBz
    clear hb2 hbw hz hBz
    go_wp2_with fail
    have HZ' := HZ.out
    have HBZ' := HBZ.out
    clear HZ HBZ r3 r4 r5 q0 q1 q2
    generalize (((wz.setCell ⟨w.heap.size + 1, 0, none⟩ (.int .i64 0)).setCell ⟨w.heap.size + 1, 1, none⟩ (.int .i64 0)).setCell ⟨w.heap.size + 1, 2, none⟩ (.int .i64 0)) = wq at HZ' HBZ' ⊢
    obtain ⟨s0, s1, s2⟩ := date_cells HZ'
    refine bodyPost_ret (v := .tuple #[.agg #[.int .i64 0, .int .i64 0, .int .i64 0], .int .i64 2]) (by simp [results, Tryz.results85, go_sem, *]) rfl ⟨rfl, HBZ'⟩
/-- What Split answers, as far as its year goes. -/
def SplitPost (w : World) (y er : Int) : Ending → World → Prop := fun e w' => (∃ m k s : Int, e = .returned (.tuple #[.agg #[.int .i64 y, .int .i64 m, .int .i64 k], .int .i64 s, .int .i64 er])) ∧ Below w.heap.size w w'
theorem frozen3 {w : World} {g : Nat} {t : TypeId} {cs : Array Value} (h : Blk w g t cs) : w.frozen? ⟨g, 0, none⟩ = false ∧ w.frozen? ⟨g, 1, none⟩ = false ∧ w.frozen? ⟨g, 2, none⟩ = false := ⟨h.frozen 0, h.frozen 1, h.frozen 2⟩
theorem split_end {w wx : World} {a b c : Int} {cs : Array Value} (h : Blk wx w.heap.size 111 cs) (hb : Below w.heap.size w wx) (hc : cs.size = 3) :
    Blk (((wx.setCell ⟨w.heap.size, 0, none⟩ (.int .i64 a)).setCell ⟨w.heap.size, 1, none⟩ (.int .i64 b)).setCell ⟨w.heap.size, 2, none⟩ (.int .i64 c)) w.heap.size 111 #[.int .i64 a, .int .i64 b, .int .i64 c] ∧ Below w.heap.size w (((wx.setCell ⟨w.heap.size, 0, none⟩ (.int .i64 a)).setCell ⟨w.heap.size, 1, none⟩ (.int .i64 b)).setCell ⟨w.heap.size, 2, none⟩ (.int .i64 c)) := by
  obtain ⟨l⟩ := cs
  match l, hc with
  | [x, y, z], _ =>
    exact ⟨((h.set_ 0 _).set_ 1 _).set_ 2 _, ((hb.setCell (p := ⟨w.heap.size, 0, none⟩) (Nat.le_refl _) _).setCell (p := ⟨w.heap.size, 1, none⟩) (Nat.le_refl _) _).setCell (p := ⟨w.heap.size, 2, none⟩) (Nat.le_refl _) _⟩
set_option maxRecDepth 100000 in
set_option maxHeartbeats 4000000 in
theorem tsplit (t y er : Int) (h : TimeIs t y er) (w : World) : Calls Tryz.prog 69 #[.int .i64 t] w (SplitPost w y er) := by
  have S1 := Lib.hid fun w => tinst t w
  have B0 : Hid (Blk (w.alloc (Obj.cells #[.int .i64 0, .int .i64 0, .int .i64 0] 111)) w.heap.size 111 #[.int .i64 0, .int .i64 0, .int .i64 0]) := Blk.new _ _ _
  have W0 : Hid (Below w.heap.size w (w.alloc (Obj.cells #[.int .i64 0, .int .i64 0, .int .i64 0] 111))) := by show Below _ _ _; (repeat' (first | assumption | exact Below.refl _ _ | exact Below.size (by assumption) | (refine Below.setCell ?_ ?_ _) | (refine Below.alloc ?_ ?_ _) | (refine Below.drew ?_) | (refine below_drewN ?_ _) | (refine Below.trans ?_ (Below.mono ‹Below _ _ _› ?_)) | omega | (simp; done) | (simp; omega) | (simp at *; omega)))
  cases h with
  | range h =>
    rw [decide_eq_false h] at S1
    clear h
    go_enter Tryz.func69, Tryz.ntmps69
    go_wp2_with (first | (go_at_call 83; (with_reducible refine (S1.out _).mono ?_); rintro e w' ⟨rfl, rfl⟩))
    obtain ⟨s0, s1, s2⟩ := date_cells B0.out
    generalize (w.alloc (Obj.cells #[.int .i64 0, .int .i64 0, .int .i64 0] 111)) = wq at W0 s0 s1 s2 ⊢
    refine bodyPost_ret (v := .tuple #[.agg #[.int .i64 0, .int .i64 0, .int .i64 0], .int .i64 0, .int .i64 2]) (by simp [results, Tryz.results69, go_sem, *]) rfl ⟨⟨_, _, _, rfl⟩, W0.out⟩
  | time h h2 =>
    rw [decide_eq_true h] at S1
    have S2 := Lib.hid fun w => tfloor t h w
    have S3 := Lib.hid fun w => tdate_low (t / 86400) h2 w
    clear h h2
    generalize t / 86400 = d at S2 S3
    go_enter Tryz.func69, Tryz.ntmps69
    go_wp2_with (first
      | (go_at_call 83; (with_reducible refine (S1.out _).mono ?_); rintro e w' ⟨rfl, rfl⟩)
      | (go_at_call 84; (with_reducible refine (S2.out _).mono ?_); rintro e w' ⟨rfl, rfl⟩)
      | (go_at_call 85
         with_reducible refine (S3.out _).mono ?_
         rintro e w1 ⟨rfl, hb1⟩
         have B1 := Lib.hid (B0.out.call hb1)
         have W1 := Lib.hid (below_step W0.out hb1)
         obtain ⟨q0, q1, q2⟩ := date_cells B1.out
         obtain ⟨r0, r1, r2⟩ := frozen3 B1.out
         have hl := B1.out.lt
         clear hb1))
    have hz := split_end (a := 0) (b := 0) (c := 0) B1.out W1.out rfl
    have hz1 := hz.1.alloc (Obj.cells #[.int .i64 0, .int .i64 0, .int .i64 0] 111)
    have HZ2 := Lib.hid (hz.2.alloc hz.2.size (Obj.cells #[.int .i64 0, .int .i64 0, .int .i64 0] 111))
    clear hz q0 q1 q2 r0 r1 r2
    generalize ((((w1.setCell ⟨w.heap.size, 0, none⟩ (.int .i64 0)).setCell ⟨w.heap.size, 1, none⟩ (.int .i64 0)).setCell ⟨w.heap.size, 2, none⟩ (.int .i64 0)).alloc (Obj.cells #[.int .i64 0, .int .i64 0, .int .i64 0] 111)) = wq at hz1 HZ2 ⊢
    obtain ⟨s0, s1, s2⟩ := date_cells hz1
    refine bodyPost_ret (v := .tuple #[.agg #[.int .i64 0, .int .i64 0, .int .i64 0], .int .i64 0, .int .i64 20]) (by simp [results, Tryz.results69, go_sem, *]) rfl ⟨⟨_, _, _, rfl⟩, HZ2.out⟩
  | ok h h2 =>
    rw [decide_eq_true h] at S1
    have S2 := Lib.hid fun w => tfloor t h w
    have S3 := Lib.hid fun w => tdate (t / 86400) y h2 w
    obtain ⟨d, hd⟩ : ∃ d, d = t / 86400 := ⟨_, rfl⟩
    rw [← hd] at S2 S3
    obtain ⟨dd, hdd⟩ : ∃ z, z = d * 86400 := ⟨_, rfl⟩
    obtain ⟨s, hs⟩ : ∃ z, z = t - dd := ⟨_, rfl⟩
    have hb : -68719476736 ≤ t ∧ t ≤ 68719476736 := h
    have x1 : IntKind.i64.wrap (d * 86400) = dd := by rw [IntKind.wrap_i64]; omega
    have x2 : IntKind.i64.wrap (t - dd) = s := by rw [IntKind.wrap_i64]; omega
    clear h h2 hd hdd hs hb
    go_enter Tryz.func69, Tryz.ntmps69
    go_wp2_with (first
      | (go_at_call 83; (with_reducible refine (S1.out _).mono ?_); rintro e w' ⟨rfl, rfl⟩)
      | (go_at_call 84; (with_reducible refine (S2.out _).mono ?_); rintro e w' ⟨rfl, rfl⟩)
      | (go_at_call 85
         with_reducible refine (S3.out _).mono ?_
         rintro e w1 ⟨⟨m, k, rfl⟩, hb1⟩
         have B1 := Lib.hid (B0.out.call hb1)
         have W1 := Lib.hid (below_step W0.out hb1)
         obtain ⟨q0, q1, q2⟩ := date_cells B1.out
         obtain ⟨r0, r1, r2⟩ := frozen3 B1.out
         have hl := B1.out.lt
         clear hb1))
    have hz := split_end (a := y) (b := m) (c := k) B1.out W1.out rfl
    have hz1 := hz.1.alloc (Obj.cells #[.int .i64 y, .int .i64 m, .int .i64 k] 111)
    have HZ2 := Lib.hid (hz.2.alloc hz.2.size (Obj.cells #[.int .i64 y, .int .i64 m, .int .i64 k] 111))
    clear hz q0 q1 q2 r0 r1 r2
    generalize ((((w1.setCell ⟨w.heap.size, 0, none⟩ (.int .i64 y)).setCell ⟨w.heap.size, 1, none⟩ (.int .i64 m)).setCell ⟨w.heap.size, 2, none⟩ (.int .i64 k)).alloc (Obj.cells #[.int .i64 y, .int .i64 m, .int .i64 k] 111)) = wq at hz1 HZ2 ⊢
    obtain ⟨s0, s1, s2⟩ := date_cells hz1
    refine bodyPost_ret (v := .tuple #[.agg #[.int .i64 y, .int .i64 m, .int .i64 k], .int .i64 s, .int .i64 0]) (by simp [results, Tryz.results69, go_sem, *]) rfl ⟨⟨_, _, _, rfl⟩, HZ2.out⟩
/-- The year of an instant. -/
theorem tyear (t y er : Int) (h : TimeIs t y er) (w : World) : Calls Tryz.prog 54 #[.int .i64 t] w fun e w' => e = .returned (.tuple #[.int .i64 y, .int .i64 er]) ∧ Below w.heap.size w w' := by
  have S1 := Lib.hid fun w => tsplit t y er h w
  clear h
  go_enter Tryz.func54, Tryz.ntmps54
  go_wp2_with (first
    | (go_at_call 69
       with_reducible refine (S1.out _).mono ?_
       rintro e w1 ⟨⟨m, k, s, rfl⟩, hb1⟩
       have W1 := Lib.hid hb1
       clear hb1))
  go_ret2
  exact ⟨rfl, by have := W1.out; (repeat' (first | assumption | exact Below.refl _ _ | exact Below.size (by assumption) | (refine Below.setCell ?_ ?_ _) | (refine Below.alloc ?_ ?_ _) | (refine Below.drew ?_) | (refine below_drewN ?_ _) | (refine Below.trans ?_ (Below.mono ‹Below _ _ _› ?_)) | omega | (simp; done) | (simp; omega) | (simp at *; omega)))⟩
end Go.Proofs.YtigocjhmgmhocaaGreatDoor

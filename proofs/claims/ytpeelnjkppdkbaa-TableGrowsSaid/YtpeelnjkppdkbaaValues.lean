/- The walk of the law TableValues. -/
import Derived.Test.YtpeelnjkppdkbaaOver
import Derived.Test.YtpeelnjkppdkbaaRefP
namespace Go.Proofs.Ytpeelnjkppdkbaa
open Go.RowKit
set_option linter.unusedVariables false
set_option linter.unusedSimpArgs false

/-- At, by both: one answer. -/
theorem at_both (m : Nat) (X Y : Nat → Int) (x : Int) (hv : TabOK (m + 1) X Y) (bx : -9223372036854775808 ≤ x ∧ x ≤ 9223372036854775807) (b off c : Nat) : ∃ (d r : Nat) (n1 n2 e : Int), 0 < d ∧ Val.rst X Y m x = (r : Int) ∧ r < d ∧ AtIs (Val.val X Y m x) r d n1 n2 e ∧ ∀ (w : World), TabAt w b off (m + 1) X Y →
      (Calls Try.prog 15 #[.slice (some ⟨b, off, none⟩) (m + 1 : Nat) c, .int .i64 x] w fun e' w' => e' = .returned (.tuple #[.agg #[.int .i64 n1, .int .i64 n2], .int .i64 e]) ∧ Below w.heap.size w w') ∧
      (Calls Try.prog 17 #[.slice (some ⟨b, off, none⟩) (m + 1 : Nat) c, .int .i64 x] w fun e' w' => e' = .returned (.tuple #[.agg #[.int .i64 n1, .int .i64 n2], .int .i64 e]) ∧ Below w.heap.size w w') := by
  obtain ⟨d, hd, hP⟩ := tpiece_den b off m c X Y x hv
  obtain ⟨d', hd', hP'⟩ := rvalue_den b off m c X Y x hv bx
  obtain ⟨r, hr⟩ : ∃ r : Nat, Val.rst X Y m x = (r : Int) := ⟨(Val.rst X Y m x).toNat, by have := hd.2.2.1; omega⟩
  obtain ⟨n1, n2, e, hA⟩ := atIs_ex (Val.val X Y m x) r d
  have hrd : r < d := by have := hd.2.2.2.1; omega
  have hrd' : r < d' := by have := hd'.2.2.2.1; omega
  have hdd : r ≠ 0 → d = d' := fun h => (hd.2.2.2.2 (by rw [hr]; omega)).trans (hd'.2.2.2.2 (by rw [hr]; omega)).symm
  exact ⟨d, r, n1, n2, e, hd.1, hr, hrd, hA, fun w ht => ⟨tat b off m c d r X Y x n1 n2 e hv w ht hd.1 hd.2.1 hr hrd hA hP, rat b off m c d' r X Y x n1 n2 e hv w ht hd'.1 hd'.2.1 hr hrd' (atIs_den hd.1 hd'.1 hdd hA) hP'⟩⟩
set_option maxRecDepth 100000 in
set_option maxHeartbeats 2000000 in
theorem values_good (b off n m c : Nat) (X Y : Nat → Int) (x p q n1 n2 ee : Int) (w : World) (hn : n = m + 1) (hv : TabOK n X Y) (ht : TabAt w b off n X Y)
    (h1 : ∀ w, TabAt w b off n X Y → Calls Try.prog 13 #[.slice (some ⟨b, off, none⟩) n c, .int .i64 x] w fun e' w' => e' = .returned (.tuple #[.int .i64 p, .int .i64 0]) ∧ Below w.heap.size w w')
    (h2 : ∀ w, TabAt w b off n X Y → Calls Try.prog 14 #[.slice (some ⟨b, off, none⟩) n c, .int .i64 x] w fun e' w' => e' = .returned (.tuple #[.int .i64 q, .int .i64 0]) ∧ Below w.heap.size w w')
    (h3 : ∀ w, TabAt w b off n X Y → Calls Try.prog 15 #[.slice (some ⟨b, off, none⟩) n c, .int .i64 x] w fun e' w' => e' = .returned (.tuple #[.agg #[.int .i64 n1, .int .i64 n2], .int .i64 ee]) ∧ Below w.heap.size w w')
    (h4 : ∀ w, TabAt w b off n X Y → Calls Try.prog 17 #[.slice (some ⟨b, off, none⟩) n c, .int .i64 x] w fun e' w' => e' = .returned (.tuple #[.agg #[.int .i64 n1, .int .i64 n2], .int .i64 ee]) ∧ Below w.heap.size w w')
    (h5 : ∀ w, TabAt w b off n X Y → Calls Try.prog 18 #[.slice (some ⟨b, off, none⟩) n c, .int .i64 x] w fun e' w' => e' = .returned (.int .i64 p) ∧ Below w.heap.size w w')
    (h6 : ∀ w, TabAt w b off n X Y → Calls Try.prog 19 #[.slice (some ⟨b, off, none⟩) n c, .int .i64 x] w fun e' w' => e' = .returned (.int .i64 q) ∧ Below w.heap.size w w') :
    Calls Try.prog 3 #[.slice (some ⟨b, off, none⟩) n c, .int .i64 x] w fun e w' => e = .returned (.bool true) ∧ Below w.heap.size w w' := by
  have SA := Lib.hid fun w => cawake w
  have SL := fun w => clong (some ⟨b, off, none⟩) n c w
  have t1 : decide (105 < n) = false := decide_eq_false (by have := hv.2.1; omega)
  rw [t1] at SL
  have SL := Lib.hid SL
  have SV := Lib.hid fun w ht => rvalid b off n c X Y w hv.1 hv.2.1 ht
  have ST := Lib.hid fun w ht => tvalid b off n c X Y w hv.1 hv.2.1 ht
  have tv := tabB_true hv
  have S1 := Lib.hid h1
  have S2 := Lib.hid h2
  have S3 := Lib.hid h3
  have S4 := Lib.hid h4
  have S5 := Lib.hid h5
  have S6 := Lib.hid h6
  have HT := Lib.hid ht
  have hb := ht.1
  clear h1 h2 h3 h4 h5 h6 hv ht hn t1
  go_enter Try.func3, Try.ntmps3
  go_upto_region 9 with (first | (go_at_call 10; (with_reducible refine (SA.out _).mono ?_); rintro e w1 ⟨rfl, hb1⟩; obtain ⟨hc1, hf1⟩ := bcell hb1; have hz1 := hb1.size; (try simp at hz1); (try simp only [heap_drew, World.heap_drewN] at hz1); (try simp only [heap_drew, World.heap_drewN] at hc1); (try simp only [heap_drew, World.heap_drewN] at hf1); (try have hs1 := Nat.lt_of_succ_le hz1); (try have hs2 := Nat.lt_of_succ_lt hs1); (try have y0 : w.heap.size < w1.heap.size := by omega); (try have y1 : w.heap.size + 1 < w1.heap.size := by omega); (try have y2 : w.heap.size + 2 < w1.heap.size := by omega)) | (go_at_call 11; (with_reducible refine (SL.out _).mono ?_); rintro e w' ⟨rfl, rfl⟩) | (go_at_call 12; (with_reducible refine (SV.out _ ?_).mono ?_); (focus (exact HT.out.below (by (repeat' (first | assumption | exact Below.refl _ _ | exact Below.size (by assumption) | (refine Below.setCell ?_ ?_ _) | (refine Below.alloc ?_ ?_ _) | (refine Below.drew ?_) | (refine below_drewN ?_ _) | (refine Below.trans ?_ (Below.mono ‹Below _ _ _› ?_)) | omega | (simp; done) | (simp; omega) | (simp at *; omega)))) hb)); rintro e w2 ⟨rfl, hb2⟩; obtain ⟨hc2, hf2⟩ := bcell hb2; have hz2 := hb2.size; (try simp at hz2); (try simp only [heap_drew, World.heap_drewN] at hz2); (try simp only [heap_drew, World.heap_drewN] at hc2); (try simp only [heap_drew, World.heap_drewN] at hf2); (try have hs1 := Nat.lt_of_succ_le hz2); (try have hs2 := Nat.lt_of_succ_lt hs1); (try have y0 : w.heap.size < w2.heap.size := by omega); (try have y1 : w.heap.size + 1 < w2.heap.size := by omega); (try have y2 : w.heap.size + 2 < w2.heap.size := by omega)) | (go_at_call 13; (with_reducible refine (S1.out _ ?_).mono ?_); (focus (exact HT.out.below (by (repeat' (first | assumption | exact Below.refl _ _ | exact Below.size (by assumption) | (refine Below.setCell ?_ ?_ _) | (refine Below.alloc ?_ ?_ _) | (refine Below.drew ?_) | (refine below_drewN ?_ _) | (refine Below.trans ?_ (Below.mono ‹Below _ _ _› ?_)) | omega | (simp; done) | (simp; omega) | (simp at *; omega)))) hb)); rintro e w3 ⟨rfl, hb3⟩; obtain ⟨hc3, hf3⟩ := bcell hb3; have hz3 := hb3.size; (try simp at hz3); (try simp only [heap_drew, World.heap_drewN] at hz3); (try simp only [heap_drew, World.heap_drewN] at hc3); (try simp only [heap_drew, World.heap_drewN] at hf3); (try have hs1 := Nat.lt_of_succ_le hz3); (try have hs2 := Nat.lt_of_succ_lt hs1); (try have y0 : w.heap.size < w3.heap.size := by omega); (try have y1 : w.heap.size + 1 < w3.heap.size := by omega); (try have y2 : w.heap.size + 2 < w3.heap.size := by omega)) | (go_at_call 14; (with_reducible refine (S2.out _ ?_).mono ?_); (focus (exact HT.out.below (by (repeat' (first | assumption | exact Below.refl _ _ | exact Below.size (by assumption) | (refine Below.setCell ?_ ?_ _) | (refine Below.alloc ?_ ?_ _) | (refine Below.drew ?_) | (refine below_drewN ?_ _) | (refine Below.trans ?_ (Below.mono ‹Below _ _ _› ?_)) | omega | (simp; done) | (simp; omega) | (simp at *; omega)))) hb)); rintro e w4 ⟨rfl, hb4⟩; obtain ⟨hc4, hf4⟩ := bcell hb4; have hz4 := hb4.size; (try simp at hz4); (try simp only [heap_drew, World.heap_drewN] at hz4); (try simp only [heap_drew, World.heap_drewN] at hc4); (try simp only [heap_drew, World.heap_drewN] at hf4); (try have hs1 := Nat.lt_of_succ_le hz4); (try have hs2 := Nat.lt_of_succ_lt hs1); (try have y0 : w.heap.size < w4.heap.size := by omega); (try have y1 : w.heap.size + 1 < w4.heap.size := by omega); (try have y2 : w.heap.size + 2 < w4.heap.size := by omega)) | (go_at_call 15; (with_reducible refine (S3.out _ ?_).mono ?_); (focus (exact HT.out.below (by (repeat' (first | assumption | exact Below.refl _ _ | exact Below.size (by assumption) | (refine Below.setCell ?_ ?_ _) | (refine Below.alloc ?_ ?_ _) | (refine Below.drew ?_) | (refine below_drewN ?_ _) | (refine Below.trans ?_ (Below.mono ‹Below _ _ _› ?_)) | omega | (simp; done) | (simp; omega) | (simp at *; omega)))) hb)); rintro e w5 ⟨rfl, hb5⟩; obtain ⟨hc5, hf5⟩ := bcell hb5; have hz5 := hb5.size; (try simp at hz5); (try simp only [heap_drew, World.heap_drewN] at hz5); (try simp only [heap_drew, World.heap_drewN] at hc5); (try simp only [heap_drew, World.heap_drewN] at hf5); (try have hs1 := Nat.lt_of_succ_le hz5); (try have hs2 := Nat.lt_of_succ_lt hs1); (try have y0 : w.heap.size < w5.heap.size := by omega); (try have y1 : w.heap.size + 1 < w5.heap.size := by omega); (try have y2 : w.heap.size + 2 < w5.heap.size := by omega)))
  have hk : Blk (w5.alloc (Obj.cells #[.int .i64 n1, .int .i64 n2] 30)) w5.heap.size 30 #[.int .i64 n1, .int .i64 n2] := Blk.new _ _ _
  have hbW : Below w.heap.size w (w5.alloc (Obj.cells #[.int .i64 n1, .int .i64 n2] 30)) := by (repeat' (first | assumption | exact Below.refl _ _ | exact Below.size (by assumption) | (refine Below.setCell ?_ ?_ _) | (refine Below.alloc ?_ ?_ _) | (refine Below.drew ?_) | (refine below_drewN ?_ _) | (refine Below.trans ?_ (Below.mono ‹Below _ _ _› ?_)) | omega | (simp; done) | (simp; omega) | (simp at *; omega)))
  generalize w5.alloc (Obj.cells #[.int .i64 n1, .int .i64 n2] 30) = w6 at hk hbW ⊢
  generalize w5.heap.size = G at hk ⊢
  have HK := Lib.hid hk
  have HBW := Lib.hid hbW
  clear hk hbW hc1 hc2 hc3 hc4 hc5 hf1 hf2 hf3 hf4 hf5 hb1 hb2 hb3 hb4 hb5
  go_upto_region 14 with (first | ((go_at_call 16; (with_reducible refine (ST.out _ ?_).mono ?_); (focus (exact HT.out.below HBW.out hb)); rintro e w7 ⟨rfl, hb7⟩; obtain ⟨hc7, hf7⟩ := bcell hb7; have hz7 := hb7.size; (try simp at hz7); (try simp only [heap_drew, World.heap_drewN] at hz7); (try simp only [heap_drew, World.heap_drewN] at hc7); (try simp only [heap_drew, World.heap_drewN] at hf7); (try have hs1 := Nat.lt_of_succ_le hz7); (try have hs2 := Nat.lt_of_succ_lt hs1); (try have y0 : w.heap.size < w7.heap.size := by omega); (try have y1 : w.heap.size + 1 < w7.heap.size := by omega); (try have y2 : w.heap.size + 2 < w7.heap.size := by omega)); have HK7 := Lib.hid (HK.out.call hb7); have HBW7 := Lib.hid (below_step HBW.out hb7)) | ((go_at_call 17; (with_reducible refine (S4.out _ ?_).mono ?_); (focus (exact HT.out.below HBW7.out hb)); rintro e w8 ⟨rfl, hb8⟩; obtain ⟨hc8, hf8⟩ := bcell hb8; have hz8 := hb8.size; (try simp at hz8); (try simp only [heap_drew, World.heap_drewN] at hz8); (try simp only [heap_drew, World.heap_drewN] at hc8); (try simp only [heap_drew, World.heap_drewN] at hf8); (try have hs1 := Nat.lt_of_succ_le hz8); (try have hs2 := Nat.lt_of_succ_lt hs1); (try have y0 : w.heap.size < w8.heap.size := by omega); (try have y1 : w.heap.size + 1 < w8.heap.size := by omega); (try have y2 : w.heap.size + 2 < w8.heap.size := by omega)); have HK8 := Lib.hid (HK7.out.call hb8); have HBW8 := Lib.hid (below_step HBW7.out hb8)))
  have hk9 : Blk (w8.alloc (Obj.cells #[.int .i64 n1, .int .i64 n2] 30)) w8.heap.size 30 #[.int .i64 n1, .int .i64 n2] := Blk.new _ _ _
  have hk10 : Blk (w8.alloc (Obj.cells #[.int .i64 n1, .int .i64 n2] 30)) G 30 #[.int .i64 n1, .int .i64 n2] := HK8.out.alloc _
  have hbW9 : Below w.heap.size w (w8.alloc (Obj.cells #[.int .i64 n1, .int .i64 n2] 30)) := HBW8.out.alloc HBW8.out.size _
  generalize w8.alloc (Obj.cells #[.int .i64 n1, .int .i64 n2] 30) = w9 at hk9 hk10 hbW9 ⊢
  generalize w8.heap.size = G2 at hk9 ⊢
  have HK9 := Lib.hid hk9
  have HK10 := Lib.hid hk10
  have HBW9 := Lib.hid hbW9
  clear hk9 hk10 hbW9 hc7 hc8 hf7 hf8 hb7 hb8
  go_wp2_with (first
    | (go_at_call 18
       with_reducible refine (S5.out _ ?_).mono ?_
       focus (exact HT.out.below HBW9.out hb)
       rintro e wA ⟨rfl, hbA⟩
       have HKA := Lib.hid (HK9.out.call hbA)
       have HKB := Lib.hid (HK10.out.call hbA)
       have HBA := Lib.hid (below_step HBW9.out hbA)
       clear hbA)
    | (go_at_call 19
       with_reducible refine (S6.out _ ?_).mono ?_
       focus (exact HT.out.below HBA.out hb)
       rintro e wB ⟨rfl, hbB⟩
       have c0 := (HKA.out.call hbB).cell 0
       have c1 := (HKA.out.call hbB).cell 1
       have c2 := (HKB.out.call hbB).cell 0
       have c3 := (HKB.out.call hbB).cell 1
       simp only [List.getElem?_toArray, List.getElem?_cons_succ, List.getElem?_cons_zero] at c0 c1 c2 c3
       have HBB := Lib.hid (below_step HBA.out hbB)
       clear hbB))
  go_ret
  exact ⟨by simp, HBB.out⟩
set_option maxHeartbeats 1000000 in
theorem values_walk (A : Option Addr) (n c : Nat) (X Y : Nat → Int) (x : Int) (w : World) (hT : TabIn w A n X Y) (bx : -9223372036854775808 ≤ x ∧ x ≤ 9223372036854775807) :
    Calls Try.prog 3 #[.slice A n c, .int .i64 x] w fun e w' => e = .returned (.bool true) ∧ Below w.heap.size w w' := by
  by_cases hok : TabOK n X Y
  · rcases hT.2 with h0 | ⟨b, off, rfl, ht⟩
    · have := hok.1; omega
    · obtain ⟨m, rfl⟩ : ∃ m, n = m + 1 := ⟨n - 1, by have := hok.1; omega⟩
      obtain ⟨d, r, n1, n2, ee, _, _, _, _, hA⟩ := at_both m X Y x hok bx b off c
      exact values_good b off (m + 1) m c X Y x _ _ n1 n2 ee w rfl hok ht (fun w h => tfloor b off m c X Y x hok w h) (fun w h => tceil b off m c X Y x hok w h) (fun w h => (hA w h).1) (fun w h => (hA w h).2) (fun w h => rfloor b off m c X Y x hok bx w h) (fun w h => rceil b off m c X Y x hok bx w h)
  · have SA := Lib.hid fun w => cawake w
    have SL := Lib.hid fun w => clong A n c w
    have HT := Lib.hid hT
    have SV := Lib.hid fun w h => rvalid_any A n c X Y w h
    have ST := Lib.hid fun w h => tvalid_any A n c X Y w h
    have tv := tabB_false hok
    have S1 := Lib.hid fun w h => tfloor_bad A n c X Y x w hok h
    have S2 := Lib.hid fun w h => tceil_bad A n c X Y x w hok h
    have S3 := Lib.hid fun w h => tat_bad A n c X Y x w hok h
    by_cases hl : 105 < n
    · have t1 : decide (105 < n) = true := decide_eq_true hl
      clear hT hok hl
      go_enter Try.func3, Try.ntmps3
      go_wp2_with (first | (go_at_call 10; (with_reducible refine (SA.out _).mono ?_); rintro e w1 ⟨rfl, hb1⟩; obtain ⟨hc1, hf1⟩ := bcell hb1; have hz1 := hb1.size; (try simp at hz1); (try simp only [heap_drew, World.heap_drewN] at hz1); (try simp only [heap_drew, World.heap_drewN] at hc1); (try simp only [heap_drew, World.heap_drewN] at hf1); (try have hs1 := Nat.lt_of_succ_le hz1); (try have hs2 := Nat.lt_of_succ_lt hs1); (try have y0 : w.heap.size < w1.heap.size := by omega); (try have y1 : w.heap.size + 1 < w1.heap.size := by omega); (try have y2 : w.heap.size + 2 < w1.heap.size := by omega)) | (go_at_call 11; (with_reducible refine (SL.out _).mono ?_); rintro e w' ⟨rfl, rfl⟩))
      go_ret
      refine ⟨rfl, ?_⟩
      (repeat' (first | assumption | exact Below.refl _ _ | exact Below.size (by assumption) | (refine Below.setCell ?_ ?_ _) | (refine Below.alloc ?_ ?_ _) | (refine Below.drew ?_) | (refine below_drewN ?_ _) | (refine Below.trans ?_ (Below.mono ‹Below _ _ _› ?_)) | omega | (simp; done) | (simp; omega) | (simp at *; omega)))
    · have t1 : decide (105 < n) = false := decide_eq_false hl
      clear hT hok hl
      go_enter Try.func3, Try.ntmps3
      go_wp2_with (first | (go_at_call 10; (with_reducible refine (SA.out _).mono ?_); rintro e w1 ⟨rfl, hb1⟩; obtain ⟨hc1, hf1⟩ := bcell hb1; have hz1 := hb1.size; (try simp at hz1); (try simp only [heap_drew, World.heap_drewN] at hz1); (try simp only [heap_drew, World.heap_drewN] at hc1); (try simp only [heap_drew, World.heap_drewN] at hf1); (try have hs1 := Nat.lt_of_succ_le hz1); (try have hs2 := Nat.lt_of_succ_lt hs1); (try have y0 : w.heap.size < w1.heap.size := by omega); (try have y1 : w.heap.size + 1 < w1.heap.size := by omega); (try have y2 : w.heap.size + 2 < w1.heap.size := by omega)) | (go_at_call 11; (with_reducible refine (SL.out _).mono ?_); rintro e w' ⟨rfl, rfl⟩) | (go_at_call 12; (with_reducible refine (SV.out _ ?_).mono ?_); (focus (exact HT.out.below (Nat.le_refl _) (by (repeat' (first | assumption | exact Below.refl _ _ | exact Below.size (by assumption) | (refine Below.setCell ?_ ?_ _) | (refine Below.alloc ?_ ?_ _) | (refine Below.drew ?_) | (refine below_drewN ?_ _) | (refine Below.trans ?_ (Below.mono ‹Below _ _ _› ?_)) | omega | (simp; done) | (simp; omega) | (simp at *; omega)))))); rintro e w2 ⟨rfl, hb2⟩; obtain ⟨hc2, hf2⟩ := bcell hb2; have hz2 := hb2.size; (try simp at hz2); (try simp only [heap_drew, World.heap_drewN] at hz2); (try simp only [heap_drew, World.heap_drewN] at hc2); (try simp only [heap_drew, World.heap_drewN] at hf2); (try have hs1 := Nat.lt_of_succ_le hz2); (try have hs2 := Nat.lt_of_succ_lt hs1); (try have y0 : w.heap.size < w2.heap.size := by omega); (try have y1 : w.heap.size + 1 < w2.heap.size := by omega); (try have y2 : w.heap.size + 2 < w2.heap.size := by omega)) | (go_at_call 13; (with_reducible refine (S1.out _ ?_).mono ?_); (focus (exact HT.out.below (Nat.le_refl _) (by (repeat' (first | assumption | exact Below.refl _ _ | exact Below.size (by assumption) | (refine Below.setCell ?_ ?_ _) | (refine Below.alloc ?_ ?_ _) | (refine Below.drew ?_) | (refine below_drewN ?_ _) | (refine Below.trans ?_ (Below.mono ‹Below _ _ _› ?_)) | omega | (simp; done) | (simp; omega) | (simp at *; omega)))))); rintro e w3 ⟨rfl, hb3⟩; obtain ⟨hc3, hf3⟩ := bcell hb3; have hz3 := hb3.size; (try simp at hz3); (try simp only [heap_drew, World.heap_drewN] at hz3); (try simp only [heap_drew, World.heap_drewN] at hc3); (try simp only [heap_drew, World.heap_drewN] at hf3); (try have hs1 := Nat.lt_of_succ_le hz3); (try have hs2 := Nat.lt_of_succ_lt hs1); (try have y0 : w.heap.size < w3.heap.size := by omega); (try have y1 : w.heap.size + 1 < w3.heap.size := by omega); (try have y2 : w.heap.size + 2 < w3.heap.size := by omega)) | (go_at_call 14; (with_reducible refine (S2.out _ ?_).mono ?_); (focus (exact HT.out.below (Nat.le_refl _) (by (repeat' (first | assumption | exact Below.refl _ _ | exact Below.size (by assumption) | (refine Below.setCell ?_ ?_ _) | (refine Below.alloc ?_ ?_ _) | (refine Below.drew ?_) | (refine below_drewN ?_ _) | (refine Below.trans ?_ (Below.mono ‹Below _ _ _› ?_)) | omega | (simp; done) | (simp; omega) | (simp at *; omega)))))); rintro e w4 ⟨rfl, hb4⟩; obtain ⟨hc4, hf4⟩ := bcell hb4; have hz4 := hb4.size; (try simp at hz4); (try simp only [heap_drew, World.heap_drewN] at hz4); (try simp only [heap_drew, World.heap_drewN] at hc4); (try simp only [heap_drew, World.heap_drewN] at hf4); (try have hs1 := Nat.lt_of_succ_le hz4); (try have hs2 := Nat.lt_of_succ_lt hs1); (try have y0 : w.heap.size < w4.heap.size := by omega); (try have y1 : w.heap.size + 1 < w4.heap.size := by omega); (try have y2 : w.heap.size + 2 < w4.heap.size := by omega)) | (go_at_call 15; (with_reducible refine (S3.out _ ?_).mono ?_); (focus (exact HT.out.below (Nat.le_refl _) (by (repeat' (first | assumption | exact Below.refl _ _ | exact Below.size (by assumption) | (refine Below.setCell ?_ ?_ _) | (refine Below.alloc ?_ ?_ _) | (refine Below.drew ?_) | (refine below_drewN ?_ _) | (refine Below.trans ?_ (Below.mono ‹Below _ _ _› ?_)) | omega | (simp; done) | (simp; omega) | (simp at *; omega)))))); rintro e w5 ⟨rfl, hb5⟩; obtain ⟨hc5, hf5⟩ := bcell hb5; have hz5 := hb5.size; (try simp at hz5); (try simp only [heap_drew, World.heap_drewN] at hz5); (try simp only [heap_drew, World.heap_drewN] at hc5); (try simp only [heap_drew, World.heap_drewN] at hf5); (try have hs1 := Nat.lt_of_succ_le hz5); (try have hs2 := Nat.lt_of_succ_lt hs1); (try have y0 : w.heap.size < w5.heap.size := by omega); (try have y1 : w.heap.size + 1 < w5.heap.size := by omega); (try have y2 : w.heap.size + 2 < w5.heap.size := by omega)) | ((go_at_call 16; (with_reducible refine (ST.out _ ?_).mono ?_); (focus (exact HT.out.below (Nat.le_refl _) (by (repeat' (first | assumption | exact Below.refl _ _ | exact Below.size (by assumption) | (refine Below.setCell ?_ ?_ _) | (refine Below.alloc ?_ ?_ _) | (refine Below.drew ?_) | (refine below_drewN ?_ _) | (refine Below.trans ?_ (Below.mono ‹Below _ _ _› ?_)) | omega | (simp; done) | (simp; omega) | (simp at *; omega)))))); rintro e w6 ⟨rfl, hb6⟩; obtain ⟨hc6, hf6⟩ := bcell hb6; have hz6 := hb6.size; (try simp at hz6); (try simp only [heap_drew, World.heap_drewN] at hz6); (try simp only [heap_drew, World.heap_drewN] at hc6); (try simp only [heap_drew, World.heap_drewN] at hf6); (try have hs1 := Nat.lt_of_succ_le hz6); (try have hs2 := Nat.lt_of_succ_lt hs1); (try have y0 : w.heap.size < w6.heap.size := by omega); (try have y1 : w.heap.size + 1 < w6.heap.size := by omega); (try have y2 : w.heap.size + 2 < w6.heap.size := by omega)); have u0 : w5.heap.size < w6.heap.size := (by omega); have c0 : w6.cell? ⟨w5.heap.size, 0, none⟩ = some (.int .i64 0) := (hc6 _ _ (by simp)).trans (by simp); have c1 : w6.cell? ⟨w5.heap.size, 1, none⟩ = some (.int .i64 0) := (hc6 _ _ (by simp)).trans (by simp)))
      go_ret
      refine ⟨by simp, ?_⟩
      (repeat' (first | assumption | exact Below.refl _ _ | exact Below.size (by assumption) | (refine Below.setCell ?_ ?_ _) | (refine Below.alloc ?_ ?_ _) | (refine Below.drew ?_) | (refine below_drewN ?_ _) | (refine Below.trans ?_ (Below.mono ‹Below _ _ _› ?_)) | omega | (simp; done) | (simp; omega) | (simp at *; omega)))
end Go.Proofs.Ytpeelnjkppdkbaa

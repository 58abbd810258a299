/- The walk of the law TableMakes. -/
import Derived.Test.YtpeelnjkppdkbaaGreatRefS
import Derived.Test.YtpeelnjkppdkbaaGreatRefT
import Derived.Test.YtpeelnjkppdkbaaGreatMakeT
namespace Go.Proofs.YtpeelnjkppdkbaaGreat
open Go.RowKit
set_option linter.unusedVariables false
set_option linter.unusedSimpArgs false

/-- A slice of knots that a call made, perhaps nil, and an error. -/
def MadePost (w : World) (n : Nat) (P Q : Nat → Int) (err : Int) (e : Ending) (w' : World) : Prop := ∃ (A : Option Addr) (cap : Nat), e = .returned (.tuple #[.slice A n cap, .int .i64 err]) ∧ TabIn w' A n P Q ∧ Below w.heap.size w w'
theorem made_nil {w : World} {err : Int} {P Q : Nat → Int} {e : Ending} {w' : World} (h : e = .returned (.tuple #[.slice none 0 0, .int .i64 err]) ∧ Below w.heap.size w w') : MadePost w 0 P Q err e w' :=
  ⟨none, 0, h.1, ⟨by omega, .inl rfl⟩, h.2⟩
theorem made_tab {w : World} {n g cap : Nat} {P Q : Nat → Int} {e : Ending} {w' : World} (h1 : n ≤ 100) (he : e = .returned (.tuple #[.slice (some ⟨g, 0, none⟩) n cap, .int .i64 0])) (hT : TabAt w' g 0 n P Q) (hb : Below w.heap.size w w') : MadePost w n P Q 0 e w' :=
  ⟨_, cap, he, ⟨by omega, .inr ⟨g, 0, rfl, hT⟩⟩, hb⟩
theorem add_both (A B : Option Addr) (na ca nb cb : Nat) (XA YA XB YB : Nat → Int) : ∃ (n : Nat) (P Q : Nat → Int) (err : Int), n ≤ 100 ∧ ∀ w, TabIn w A na XA YA → TabIn w B nb XB YB →
    Calls Tryz.prog 6 #[.slice A na ca, .slice B nb cb] w (MadePost w n P Q err) ∧ Calls Tryz.prog 9 #[.slice A na ca, .slice B nb cb] w (MadePost w n P Q err) := by
  by_cases hv : TabOK na XA YA ∧ TabOK nb XB YB
  · obtain ⟨oA, oB⟩ := hv
    obtain ⟨ma, ea⟩ : ∃ m, na = m + 1 := ⟨na - 1, by have := oA.1; omega⟩
    obtain ⟨mb, eb⟩ : ∃ m, nb = m + 1 := ⟨nb - 1, by have := oB.1; omega⟩
    obtain ⟨PL, hPL⟩ : ∃ L, L = addP na XA YA nb XB YB := ⟨_, rfl⟩
    have T : ∀ w, TabIn w A na XA YA → TabIn w B nb XB YB → ∃ ba oa bb ob, A = some ⟨ba, oa, none⟩ ∧ B = some ⟨bb, ob, none⟩ ∧ TabAt w ba oa na XA YA ∧ TabAt w bb ob nb XB YB := fun w h1 h2 => by
      rcases h1.2 with h | ⟨ba, oa, e1, hA⟩
      · omega
      · rcases h2.2 with h | ⟨bb, ob, e2, hB⟩
        · omega
        · exact ⟨ba, oa, bb, ob, e1, e2, hA, hB⟩
    by_cases h100 : 100 < PL.length
    · refine ⟨0, XA, XA, 4, by omega, fun w h1 h2 => ?_⟩
      obtain ⟨ba, oa, bb, ob, rfl, rfl, hA, hB⟩ := T w h1 h2
      constructor
      · refine (tadd ba oa na ma ca bb ob nb mb cb PL.length XA YA XB YB PL hPL rfl w ea eb oA oB hA hB).mono ?_
        rintro e w' (⟨_, he⟩ | ⟨h, _⟩ | ⟨h, _⟩)
        · exact made_nil he
        · omega
        · omega
      · refine (radd ba oa na ma ca bb ob nb mb cb PL.length XA YA XB YB PL hPL rfl w ea eb oA oB hA hB).mono ?_
        rintro e w' (⟨_, he⟩ | ⟨h, _⟩ | ⟨h, _⟩)
        · exact made_nil he
        · omega
        · omega
    · by_cases hin : ∀ k, k < PL.length → inB (addY XA YA ma XB YB mb (PL.getD k 0))
      · refine ⟨PL.length, fun k => PL.getD k 0, fun k => addY XA YA ma XB YB mb (PL.getD k 0), 0, by omega, fun w h1 h2 => ?_⟩
        obtain ⟨ba, oa, bb, ob, rfl, rfl, hA, hB⟩ := T w h1 h2
        constructor
        · refine (tadd ba oa na ma ca bb ob nb mb cb PL.length XA YA XB YB PL hPL rfl w ea eb oA oB hA hB).mono ?_
          rintro e w' (⟨h, _⟩ | ⟨_, ⟨k, hk, hq⟩, _⟩ | ⟨_, _, g, cap, he, _, hT, hb⟩)
          · omega
          · exact absurd (hin k hk) hq
          · exact made_tab (by omega) he hT hb
        · refine (radd ba oa na ma ca bb ob nb mb cb PL.length XA YA XB YB PL hPL rfl w ea eb oA oB hA hB).mono ?_
          rintro e w' (⟨h, _⟩ | ⟨_, ⟨k, hk, hq⟩, _⟩ | ⟨_, _, g, cap, he, _, hT, hb⟩)
          · omega
          · exact absurd (hin k hk) hq
          · exact made_tab (by omega) he hT hb
      · refine ⟨0, XA, XA, 5, by omega, fun w h1 h2 => ?_⟩
        obtain ⟨ba, oa, bb, ob, rfl, rfl, hA, hB⟩ := T w h1 h2
        constructor
        · refine (tadd ba oa na ma ca bb ob nb mb cb PL.length XA YA XB YB PL hPL rfl w ea eb oA oB hA hB).mono ?_
          rintro e w' (⟨h, _⟩ | ⟨_, _, he⟩ | ⟨_, h, _⟩)
          · omega
          · exact made_nil he
          · exact absurd h hin
        · refine (radd ba oa na ma ca bb ob nb mb cb PL.length XA YA XB YB PL hPL rfl w ea eb oA oB hA hB).mono ?_
          rintro e w' (⟨h, _⟩ | ⟨_, _, he⟩ | ⟨_, h, _⟩)
          · omega
          · exact made_nil he
          · exact absurd h hin
  · exact ⟨0, XA, XA, 1, by omega, fun w h1 h2 => ⟨(tadd_bad A B na ca nb cb XA YA XB YB w hv h1 h2).mono fun e w' h => made_nil h, (radd_bad A B na ca nb cb XA YA XB YB w hv h1 h2).mono fun e w' h => made_nil h⟩⟩
theorem cut_both (A : Option Addr) (na ca : Nat) (XA YA : Nat → Int) (x y : Int) : ∃ (n : Nat) (P Q : Nat → Int) (err : Int), n ≤ 100 ∧ ∀ w, TabIn w A na XA YA →
    Calls Tryz.prog 7 #[.slice A na ca, .int .i64 x, .int .i64 y] w (MadePost w n P Q err) ∧ Calls Tryz.prog 10 #[.slice A na ca, .int .i64 x, .int .i64 y] w (MadePost w n P Q err) := by
  by_cases oA : TabOK na XA YA
  · by_cases hr : inB x ∧ inB y ∧ x ≤ y
    · obtain ⟨hx, hy, hxy⟩ := hr
      obtain ⟨ma, ea⟩ : ∃ m, na = m + 1 := ⟨na - 1, by have := oA.1; omega⟩
      have T : ∀ w, TabIn w A na XA YA → ∃ ba oa, A = some ⟨ba, oa, none⟩ ∧ TabAt w ba oa na XA YA := fun w h1 => by
        rcases h1.2 with h | ⟨ba, oa, e1, hA⟩
        · omega
        · exact ⟨ba, oa, e1, hA⟩
      by_cases h100 : 100 < (cutL XA YA ma x y).length
      · refine ⟨0, XA, XA, 4, by omega, fun w h1 => ?_⟩
        obtain ⟨ba, oa, rfl, hA⟩ := T w h1
        constructor
        · refine (tcut_in ba oa na ma ca XA YA x y ea oA hx hy hxy w hA).mono ?_
          rintro e w' (⟨h, _⟩ | ⟨_, he⟩)
          · omega
          · exact made_nil he
        · refine (rcut_in ba oa na ma ca XA YA x y ea oA hx hy hxy w hA).mono ?_
          rintro e w' (⟨h, _⟩ | ⟨_, he⟩)
          · omega
          · exact made_nil he
      · refine ⟨(cutL XA YA ma x y).length, kX (cutL XA YA ma x y), kY (cutL XA YA ma x y), 0, Nat.le_of_not_lt h100, fun w h1 => ?_⟩
        obtain ⟨ba, oa, rfl, hA⟩ := T w h1
        constructor
        · refine (tcut_in ba oa na ma ca XA YA x y ea oA hx hy hxy w hA).mono ?_
          rintro e w' (⟨h, g, cap, he, _, hT, hb⟩ | ⟨h, _⟩)
          · exact made_tab h he hT hb
          · omega
        · refine (rcut_in ba oa na ma ca XA YA x y ea oA hx hy hxy w hA).mono ?_
          rintro e w' (⟨h, g, cap, he, _, hT, hb⟩ | ⟨h, _⟩)
          · exact made_tab h he hT hb
          · omega
    · exact ⟨0, XA, XA, 2, by omega, fun w h1 => ⟨(tcut_range A na ca XA YA x y w oA hr h1).mono fun e w' h => made_nil h, (rcut_range A na ca XA YA x y w oA hr h1).mono fun e w' h => made_nil h⟩⟩
  · exact ⟨0, XA, XA, 1, by omega, fun w h1 => ⟨(tcut_bad A na ca XA YA x y w oA h1).mono fun e w' h => made_nil h, (rcut_bad A na ca XA YA x y w oA h1).mono fun e w' h => made_nil h⟩⟩
theorem shift_both (A : Option Addr) (na ca : Nat) (XA YA : Nat → Int) (x y : Int) : ∃ (n : Nat) (P Q : Nat → Int) (err : Int), n ≤ 100 ∧ ∀ w, TabIn w A na XA YA →
    Calls Tryz.prog 8 #[.slice A na ca, .int .i64 x, .int .i64 y] w (MadePost w n P Q err) ∧ Calls Tryz.prog 11 #[.slice A na ca, .int .i64 x, .int .i64 y] w (MadePost w n P Q err) := by
  by_cases oA : TabOK na XA YA
  · by_cases hr : (-2251799813685248 ≤ x ∧ x ≤ 2251799813685248) ∧ (-2251799813685248 ≤ y ∧ y ≤ 2251799813685248)
    · obtain ⟨hx, hy⟩ := hr
      have T : ∀ w, TabIn w A na XA YA → ∃ ba oa, A = some ⟨ba, oa, none⟩ ∧ TabAt w ba oa na XA YA := fun w h1 => by
        rcases h1.2 with h | ⟨ba, oa, e1, hA⟩
        · have := oA.1; omega
        · exact ⟨ba, oa, e1, hA⟩
      by_cases hin : ∀ k, k < na → inB (XA k + x) ∧ inB (YA k + y)
      · refine ⟨na, fun k => XA k + x, fun k => YA k + y, 0, oA.2.1, fun w h1 => ?_⟩
        obtain ⟨ba, oa, rfl, hA⟩ := T w h1
        constructor
        · refine (tshift ba oa na ca XA YA x y oA hx hy w hA).mono ?_
          rintro e w' (⟨⟨k, hk, h⟩, _⟩ | ⟨_, g, cap, he, _, hT, hb⟩)
          · exact absurd (hin k hk) h
          · exact made_tab oA.2.1 he hT hb
        · refine (rshift06 ba oa na ca XA YA x y oA hx hy w hA).mono ?_
          rintro e w' (⟨⟨k, hk, h⟩, _⟩ | ⟨_, g, cap, he, _, hT, hb⟩)
          · exact absurd (hin k hk) h
          · exact made_tab oA.2.1 he hT hb
      · refine ⟨0, XA, XA, 5, by omega, fun w h1 => ?_⟩
        obtain ⟨ba, oa, rfl, hA⟩ := T w h1
        constructor
        · refine (tshift ba oa na ca XA YA x y oA hx hy w hA).mono ?_
          rintro e w' (⟨_, he⟩ | ⟨h, _⟩)
          · exact made_nil he
          · exact absurd h hin
        · refine (rshift06 ba oa na ca XA YA x y oA hx hy w hA).mono ?_
          rintro e w' (⟨_, he⟩ | ⟨h, _⟩)
          · exact made_nil he
          · exact absurd h hin
    · exact ⟨0, XA, XA, 5, by omega, fun w h1 => ⟨(tshift_far A na ca XA YA x y w oA hr h1).mono fun e w' h => made_nil h, (rshift_far A na ca XA YA x y w oA hr h1).mono fun e w' h => made_nil h⟩⟩
  · exact ⟨0, XA, XA, 1, by omega, fun w h1 => ⟨(tshift_bad A na ca XA YA x y w oA h1).mono fun e w' h => made_nil h, (rshift_bad A na ca XA YA x y w oA h1).mono fun e w' h => made_nil h⟩⟩
set_option maxRecDepth 100000 in
set_option maxHeartbeats 4000000 in
theorem makes_walk (A B : Option Addr) (na ca nb cb : Nat) (XA YA XB YB : Nat → Int) (x y : Int) (w : World) (hTA : TabIn w A na XA YA) (hTB : TabIn w B nb XB YB) :
    Calls Tryz.prog 3 #[.slice A na ca, .slice B nb cb, .int .i64 x, .int .i64 y] w fun e w' => e = .returned (.bool true) ∧ Below w.heap.size w w' := by
  have SA := Lib.hid fun w => cawake w
  have HTA := Lib.hid hTA
  have HTB := Lib.hid hTB
  obtain ⟨la, hla⟩ : ∃ f, f = decide (105 < na) := ⟨_, rfl⟩
  obtain ⟨lb, hlb⟩ : ∃ f, f = decide (105 < nb) := ⟨_, rfl⟩
  have l1 := fun w => clong A na ca w
  have l2 := fun w => clong B nb cb w
  rw [← hla] at l1
  rw [← hlb] at l2
  have L1 := Lib.hid l1
  have L2 := Lib.hid l2
  obtain ⟨n1, P1, Q1, e1, h1, s1⟩ := add_both A B na ca nb cb XA YA XB YB
  obtain ⟨n2, P2, Q2, e2, h2, s2⟩ := cut_both A na ca XA YA x y
  obtain ⟨n3, P3, Q3, e3, h3, s3⟩ := shift_both A na ca XA YA x y
  have S1 := Lib.hid fun w a b => (s1 w a b).1
  have R1 := Lib.hid fun w a b => (s1 w a b).2
  have S2 := Lib.hid fun w a => (s2 w a).1
  have R2 := Lib.hid fun w a => (s2 w a).2
  have S3 := Lib.hid fun w a => (s3 w a).1
  have R3 := Lib.hid fun w a => (s3 w a).2
  have M1 := Lib.hid fun (A A' : Option Addr) (c c' : Nat) w ht ht' => rsame_in A A' n1 c c' P1 Q1 w h1 ht ht'
  have M2 := Lib.hid fun (A A' : Option Addr) (c c' : Nat) w ht ht' => rsame_in A A' n2 c c' P2 Q2 w h2 ht ht'
  have M3 := Lib.hid fun (A A' : Option Addr) (c c' : Nat) w ht ht' => rsame_in A A' n3 c c' P3 Q3 w h3 ht ht'
  clear hTA hTB hla hlb l1 l2 s1 s2 s3 h1 h2 h3
  cases la with
  | true =>
    go_enter Tryz.func3, Tryz.ntmps3
    go_wp2_with (first | ((go_at_call 4; (with_reducible refine (SA.out _).mono ?_); rintro e w1 ⟨rfl, hb1⟩; obtain ⟨hc1, hf1⟩ := bcell hb1; have hz1 := hb1.size; (try simp at hz1); (try simp only [heap_drew, World.heap_drewN] at hz1); (try simp only [heap_drew, World.heap_drewN] at hc1); (try simp only [heap_drew, World.heap_drewN] at hf1); (try have hs1 := Nat.lt_of_succ_le hz1); (try have hs2 := Nat.lt_of_succ_lt hs1); (try have y0 : w.heap.size < w1.heap.size := by omega); (try have y1 : w.heap.size + 1 < w1.heap.size := by omega); (try have y2 : w.heap.size + 2 < w1.heap.size := by omega))) | (go_at_call 5; (with_reducible refine (L1.out _).mono ?_); rintro e w' ⟨rfl, rfl⟩) | (go_at_call 5; (with_reducible refine (L2.out _).mono ?_); rintro e w' ⟨rfl, rfl⟩))
    go_ret
    refine ⟨rfl, ?_⟩
    (repeat' (first | assumption | exact Below.refl _ _ | exact Below.size (by assumption) | (refine Below.setCell ?_ ?_ _) | (refine Below.alloc ?_ ?_ _) | (refine Below.drew ?_) | (refine below_drewN ?_ _) | (refine Below.trans ?_ (Below.mono ‹Below _ _ _› ?_)) | omega | (simp; done) | (simp; omega) | (simp at *; omega)))
  | false =>
    cases lb with
    | true =>
      go_enter Tryz.func3, Tryz.ntmps3
      go_wp2_with (first | ((go_at_call 4; (with_reducible refine (SA.out _).mono ?_); rintro e w1 ⟨rfl, hb1⟩; obtain ⟨hc1, hf1⟩ := bcell hb1; have hz1 := hb1.size; (try simp at hz1); (try simp only [heap_drew, World.heap_drewN] at hz1); (try simp only [heap_drew, World.heap_drewN] at hc1); (try simp only [heap_drew, World.heap_drewN] at hf1); (try have hs1 := Nat.lt_of_succ_le hz1); (try have hs2 := Nat.lt_of_succ_lt hs1); (try have y0 : w.heap.size < w1.heap.size := by omega); (try have y1 : w.heap.size + 1 < w1.heap.size := by omega); (try have y2 : w.heap.size + 2 < w1.heap.size := by omega))) | (go_at_call 5; (with_reducible refine (L1.out _).mono ?_); rintro e w' ⟨rfl, rfl⟩) | (go_at_call 5; (with_reducible refine (L2.out _).mono ?_); rintro e w' ⟨rfl, rfl⟩))
      go_ret
      refine ⟨rfl, ?_⟩
      (repeat' (first | assumption | exact Below.refl _ _ | exact Below.size (by assumption) | (refine Below.setCell ?_ ?_ _) | (refine Below.alloc ?_ ?_ _) | (refine Below.drew ?_) | (refine below_drewN ?_ _) | (refine Below.trans ?_ (Below.mono ‹Below _ _ _› ?_)) | omega | (simp; done) | (simp; omega) | (simp at *; omega)))
    | false =>
      go_enter Tryz.func3, Tryz.ntmps3
      go_wp2_with (first
        | ((go_at_call 4; (with_reducible refine (SA.out _).mono ?_); rintro e w1 ⟨rfl, hb1⟩; obtain ⟨hc1, hf1⟩ := bcell hb1; have hz1 := hb1.size; (try simp at hz1); (try simp only [heap_drew, World.heap_drewN] at hz1); (try simp only [heap_drew, World.heap_drewN] at hc1); (try simp only [heap_drew, World.heap_drewN] at hf1); (try have hs1 := Nat.lt_of_succ_le hz1); (try have hs2 := Nat.lt_of_succ_lt hs1); (try have y0 : w.heap.size < w1.heap.size := by omega); (try have y1 : w.heap.size + 1 < w1.heap.size := by omega); (try have y2 : w.heap.size + 2 < w1.heap.size := by omega))
           have HW1 := Lib.hid hb1
           clear hc1 hf1 hb1)
        | (go_at_call 5; (with_reducible refine (L1.out _).mono ?_); rintro e w' ⟨rfl, rfl⟩)
        | (go_at_call 5; (with_reducible refine (L2.out _).mono ?_); rintro e w' ⟨rfl, rfl⟩)
        | (go_at_call 6
           with_reducible refine (S1.out _ ?_ ?_).mono ?_
           focus (exact HTA.out.below (Nat.le_refl _) HW1.out)
           focus (exact HTB.out.below (Nat.le_refl _) HW1.out)
           rintro e w4 ⟨A4, c4, rfl, hT4, hb4⟩
           have HW4 := Lib.hid (below_step HW1.out hb4)
           have HT4 := Lib.hid hT4
           clear hT4 hb4)
        | (go_at_call 7
           with_reducible refine (S2.out _ ?_).mono ?_
           focus (exact HTA.out.below (Nat.le_refl _) HW4.out)
           rintro e w5 ⟨A5, c5, rfl, hT5, hb5⟩
           have HW5 := Lib.hid (below_step HW4.out hb5)
           have HT4_5 := Lib.hid (HT4.out.below (Nat.le_refl _) hb5)
           have HT5 := Lib.hid hT5
           clear hT5 hb5)
        | (go_at_call 8
           with_reducible refine (S3.out _ ?_).mono ?_
           focus (exact HTA.out.below (Nat.le_refl _) HW5.out)
           rintro e w6 ⟨A6, c6, rfl, hT6, hb6⟩
           have HW6 := Lib.hid (below_step HW5.out hb6)
           have HT4_6 := Lib.hid (HT4_5.out.below (Nat.le_refl _) hb6)
           have HT5_6 := Lib.hid (HT5.out.below (Nat.le_refl _) hb6)
           have HT6 := Lib.hid hT6
           clear hT6 hb6)
        | (go_at_call 9
           with_reducible refine (R1.out _ ?_ ?_).mono ?_
           focus (exact HTA.out.below (Nat.le_refl _) HW6.out)
           focus (exact HTB.out.below (Nat.le_refl _) HW6.out)
           rintro e w7 ⟨A7, c7, rfl, hT7, hb7⟩
           have HW7 := Lib.hid (below_step HW6.out hb7)
           have HT4_7 := Lib.hid (HT4_6.out.below (Nat.le_refl _) hb7)
           have HT5_7 := Lib.hid (HT5_6.out.below (Nat.le_refl _) hb7)
           have HT6_7 := Lib.hid (HT6.out.below (Nat.le_refl _) hb7)
           have HT7 := Lib.hid hT7
           clear hT7 hb7)
        | (go_at_call 10
           with_reducible refine (R2.out _ ?_).mono ?_
           focus (exact HTA.out.below (Nat.le_refl _) HW7.out)
           rintro e w8 ⟨A8, c8, rfl, hT8, hb8⟩
           have HW8 := Lib.hid (below_step HW7.out hb8)
           have HT4_8 := Lib.hid (HT4_7.out.below (Nat.le_refl _) hb8)
           have HT5_8 := Lib.hid (HT5_7.out.below (Nat.le_refl _) hb8)
           have HT6_8 := Lib.hid (HT6_7.out.below (Nat.le_refl _) hb8)
           have HT7_8 := Lib.hid (HT7.out.below (Nat.le_refl _) hb8)
           have HT8 := Lib.hid hT8
           clear hT8 hb8)
        | (go_at_call 11
           with_reducible refine (R3.out _ ?_).mono ?_
           focus (exact HTA.out.below (Nat.le_refl _) HW8.out)
           rintro e w9 ⟨A9, c9, rfl, hT9, hb9⟩
           have HW9 := Lib.hid (below_step HW8.out hb9)
           have HT4_9 := Lib.hid (HT4_8.out.below (Nat.le_refl _) hb9)
           have HT5_9 := Lib.hid (HT5_8.out.below (Nat.le_refl _) hb9)
           have HT6_9 := Lib.hid (HT6_8.out.below (Nat.le_refl _) hb9)
           have HT7_9 := Lib.hid (HT7_8.out.below (Nat.le_refl _) hb9)
           have HT8_9 := Lib.hid (HT8.out.below (Nat.le_refl _) hb9)
           have HT9 := Lib.hid hT9
           clear hT9 hb9)
        | (go_at_call 12
           with_reducible refine (M1.out _ _ _ _ _ ?_ ?_).mono ?_
           focus (exact HT4_9.out)
           focus (exact HT7_9.out)
           rintro e w10 ⟨rfl, hb10⟩
           have HW10 := Lib.hid (below_step HW9.out hb10)
           have HT4_10 := Lib.hid (HT4_9.out.below (Nat.le_refl _) hb10)
           have HT5_10 := Lib.hid (HT5_9.out.below (Nat.le_refl _) hb10)
           have HT6_10 := Lib.hid (HT6_9.out.below (Nat.le_refl _) hb10)
           have HT7_10 := Lib.hid (HT7_9.out.below (Nat.le_refl _) hb10)
           have HT8_10 := Lib.hid (HT8_9.out.below (Nat.le_refl _) hb10)
           have HT9_10 := Lib.hid (HT9.out.below (Nat.le_refl _) hb10)
           clear hb10)
        | (go_at_call 12
           with_reducible refine (M2.out _ _ _ _ _ ?_ ?_).mono ?_
           focus (exact HT5_10.out)
           focus (exact HT8_10.out)
           rintro e w11 ⟨rfl, hb11⟩
           have HW11 := Lib.hid (below_step HW10.out hb11)
           have HT4_11 := Lib.hid (HT4_10.out.below (Nat.le_refl _) hb11)
           have HT5_11 := Lib.hid (HT5_10.out.below (Nat.le_refl _) hb11)
           have HT6_11 := Lib.hid (HT6_10.out.below (Nat.le_refl _) hb11)
           have HT7_11 := Lib.hid (HT7_10.out.below (Nat.le_refl _) hb11)
           have HT8_11 := Lib.hid (HT8_10.out.below (Nat.le_refl _) hb11)
           have HT9_11 := Lib.hid (HT9_10.out.below (Nat.le_refl _) hb11)
           clear hb11)
        | (go_at_call 12
           with_reducible refine (M3.out _ _ _ _ _ ?_ ?_).mono ?_
           focus (exact HT6_11.out)
           focus (exact HT9_11.out)
           rintro e w12 ⟨rfl, hb12⟩
           have HW12 := Lib.hid (below_step HW11.out hb12)
           have HT4_12 := Lib.hid (HT4_11.out.below (Nat.le_refl _) hb12)
           have HT5_12 := Lib.hid (HT5_11.out.below (Nat.le_refl _) hb12)
           have HT6_12 := Lib.hid (HT6_11.out.below (Nat.le_refl _) hb12)
           have HT7_12 := Lib.hid (HT7_11.out.below (Nat.le_refl _) hb12)
           have HT8_12 := Lib.hid (HT8_11.out.below (Nat.le_refl _) hb12)
           have HT9_12 := Lib.hid (HT9_11.out.below (Nat.le_refl _) hb12)
           clear hb12))
      go_ret
      exact ⟨by simp, HW12.out⟩
end Go.Proofs.YtpeelnjkppdkbaaGreat

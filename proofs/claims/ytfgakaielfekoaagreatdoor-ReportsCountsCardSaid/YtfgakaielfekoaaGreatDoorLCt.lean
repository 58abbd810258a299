/- The walk of the law ReportsCounts. -/
import Derived.Test.YtfgakaielfekoaaGreatDoorMgB
import Derived.Test.YtfgakaielfekoaaGreatDoorLgh
import Derived.Test.YtfgakaielfekoaaGreatDoorTno
import Derived.Test.YtfgakaielfekoaaGreatDoorTov
import Derived.Test.YtfgakaielfekoaaGreatDoorRov
namespace Go.Proofs.YtfgakaielfekoaaGreatDoor
open Go.RowKit
set_option linter.unusedVariables false
set_option linter.unusedSimpArgs false

theorem NodesIs.uniq {D : Nds} {n : Nat} {K : Lks} {m : Nat} {S : Sts} {s : Nat} {R1 R2 : List ByteArray} {e1 e2 : Int} (h1 : NodesIs D n K m S s R1 e1) (h2 : NodesIs D n K m S s R2 e2) : R1 = R2 ∧ e1 = e2 := by
  rcases h1 with ⟨a, b, c⟩ | ⟨a, a2, b, c⟩ | ⟨a, a2, b, c⟩ <;> rcases h2 with ⟨a', b', c'⟩ | ⟨a', a2', b', c'⟩ | ⟨a', a2', b', c'⟩ <;> first
    | exact absurd a' a
    | exact absurd a a'
    | exact ⟨b.trans b'.symm, c.trans c'.symm⟩
    | omega
theorem OverIs.uniq {D : Nds} {n : Nat} {K : Lks} {m : Nat} {S : Sts} {s : Nat} {sec : Int} {R1 R2 : List ByteArray} {e1 e2 : Int} (h1 : OverIs D n K m S s sec R1 e1) (h2 : OverIs D n K m S s sec R2 e2) : R1 = R2 ∧ e1 = e2 := by
  rcases h1 with ⟨a, b, c⟩ | ⟨a, a2, b, c⟩ | ⟨a, a2, b, c⟩ <;> rcases h2 with ⟨a', b', c'⟩ | ⟨a', a2', b', c'⟩ | ⟨a', a2', b', c'⟩ <;> first
    | exact absurd a' a
    | exact absurd a a'
    | exact ⟨b.trans b'.symm, c.trans c'.symm⟩
    | omega
set_option maxRecDepth 100000 in
set_option maxHeartbeats 16000000 in
theorem counts_walk (NA LA : Option Addr) (n nc m lc : Nat) (D : Nds) (K : Lks) (A : Option Addr) (s c : Nat) (S : Sts) (sec : Int) (w : World) (hE : Env5 w) (hD : NdIn w NA n D) (hK : LkIn w LA m K) (hT : StIn w A s S) :
    Calls Tryz.prog 5 #[.agg #[.slice NA n nc, .slice LA m lc], .slice A s c, .int .i64 sec] w fun e w' => e = .returned (.bool true) ∧ Below w.heap.size w w' := by
  have HE := Lib.hid hE
  have HD := Lib.hid hD
  have HK := Lib.hid hK
  have HT := Lib.hid hT
  have H0 : Hid (Below w.heap.size w (w.alloc (Obj.cells #[.slice NA n nc, .slice LA m lc] 25))) := (Below.refl _ w).alloc (Nat.le_refl _) _
  have HB0 := Lib.hid (Blk.new w 25 #[.slice NA n nc, .slice LA m lc])
  have SA := Lib.hid fun w hE => caw5 w hE
  have sg := fun w hD hK => tlarge NA LA n nc m lc D K w hD hK
  by_cases h1 : lgP D n K m
  case pos =>
    rw [boolOf_true h1] at sg
    have SG := Lib.hid sg
    clear sg h1 hE hD hK hT
    go_enter Tryz.func5, Tryz.ntmps5
    go_wp2_with (first
      | (go_at_call 8
         with_reducible refine (SA.out _ ?_).mono ?_
         focus (exact HE.out.below H0.out)
         rintro e w1 ⟨rfl, hb1⟩
         have H1 := Lib.hid (below_step H0.out hb1)
         have HB1 := Lib.hid (HB0.out.call hb1)
         obtain ⟨d0, d1⟩ := blk2 HB1.out
         clear hb1)
      | (go_at_call 9
         with_reducible refine (SG.out _ ?_ ?_).mono ?_
         focus (exact HD.out.below (Nat.le_refl _) H1.out)
         focus (exact HK.out.below (Nat.le_refl _) H1.out)
         rintro e w2 ⟨rfl, hb2⟩
         have H2 := Lib.hid (below_step H1.out hb2)
         have HB2 := Lib.hid (HB1.out.call hb2)
         obtain ⟨d0, d1⟩ := blk2 HB2.out
         clear hb2))
    go_ret
    exact ⟨rfl, H2.out⟩
  rw [boolOf_false h1] at sg
  have SG := Lib.hid sg
  have sh := fun w hT => theavy A s c S w hT
  by_cases h2 : hvP S s
  case pos =>
    rw [boolOf_true h2] at sh
    have SH := Lib.hid sh
    clear sg sh h1 h2 hE hD hK hT
    go_enter Tryz.func5, Tryz.ntmps5
    go_wp2_with (first
      | (go_at_call 8
         with_reducible refine (SA.out _ ?_).mono ?_
         focus (exact HE.out.below H0.out)
         rintro e w1 ⟨rfl, hb1⟩
         have H1 := Lib.hid (below_step H0.out hb1)
         have HB1 := Lib.hid (HB0.out.call hb1)
         obtain ⟨d0, d1⟩ := blk2 HB1.out
         clear hb1)
      | (go_at_call 9
         with_reducible refine (SG.out _ ?_ ?_).mono ?_
         focus (exact HD.out.below (Nat.le_refl _) H1.out)
         focus (exact HK.out.below (Nat.le_refl _) H1.out)
         rintro e w2 ⟨rfl, hb2⟩
         have H2 := Lib.hid (below_step H1.out hb2)
         have HB2 := Lib.hid (HB1.out.call hb2)
         obtain ⟨d0, d1⟩ := blk2 HB2.out
         clear hb2)
      | (go_at_call 17
         with_reducible refine (SH.out _ ?_).mono ?_
         focus (exact HT.out.below (Nat.le_refl _) H2.out)
         rintro e w3 ⟨rfl, hb3⟩
         have H3 := Lib.hid (below_step H2.out hb3)
         have HB3 := Lib.hid (HB2.out.call hb3)
         obtain ⟨d0, d1⟩ := blk2 HB3.out
         clear hb3))
    go_ret
    exact ⟨rfl, H3.out⟩
  rw [boolOf_false h2] at sh
  have SH := Lib.hid sh
  obtain ⟨h14, h16, hnd, hlk⟩ := lg_not h1
  obtain ⟨h20, hst⟩ := hv_not h2
  have hz := lg_sz h1
  have hnm : ∀ i, i < n → (D.Nm i).size ≤ 60 := fun i hi => (hnd i hi).2
  have hs : ∀ k, k < s → S.VN k ≤ 2000 ∧ S.PN k ≤ 2000 ∧ S.SN k ≤ 2000 ∧ S.ON k ≤ 2000 := fun k hk => by have := hst k hk; omega
  have S4 := Lib.hid fun w hE hD hK ht => tNodes NA LA n nc m lc D K hz A s c S h20 h14 hnm hs w hE hD hK ht
  have S5 := Lib.hid fun w hE hD hK ht => tOver NA LA n nc m lc D K hz A s c S sec h20 h14 hnm hs w hE hD hK ht
  have S6 := Lib.hid fun w hD hK ht => rNodes NA LA n nc m lc D K hz A s c S h20 h14 hnm hs w hD hK ht
  have S7 := Lib.hid fun w hD hK ht => rOver NA LA n nc m lc D K hz A s c S sec h20 h14 hnm hs w hD hK ht
  clear sg sh h1 h2 hE hD hK hT h14 h16 hnd hlk h20 hst hz hnm hs
  go_enter Tryz.func5, Tryz.ntmps5
  go_wp2_with (first
    | (go_at_call 8
       with_reducible refine (SA.out _ ?_).mono ?_
       focus (exact HE.out.below H0.out)
       rintro e w1 ⟨rfl, hb1⟩
       have H1 := Lib.hid (below_step H0.out hb1)
       have HB1 := Lib.hid (HB0.out.call hb1)
       obtain ⟨d0, d1⟩ := blk2 HB1.out
       clear hb1)
    | (go_at_call 9
       with_reducible refine (SG.out _ ?_ ?_).mono ?_
       focus (exact HD.out.below (Nat.le_refl _) H1.out)
       focus (exact HK.out.below (Nat.le_refl _) H1.out)
       rintro e w2 ⟨rfl, hb2⟩
       have H2 := Lib.hid (below_step H1.out hb2)
       have HB2 := Lib.hid (HB1.out.call hb2)
       obtain ⟨d0, d1⟩ := blk2 HB2.out
       clear hb2)
    | (go_at_call 17
       with_reducible refine (SH.out _ ?_).mono ?_
       focus (exact HT.out.below (Nat.le_refl _) H2.out)
       rintro e w3 ⟨rfl, hb3⟩
       have H3 := Lib.hid (below_step H2.out hb3)
       have HB3 := Lib.hid (HB2.out.call hb3)
       obtain ⟨d0, d1⟩ := blk2 HB3.out
       clear hb3)
    | (go_at_call 18
       with_reducible refine (S4.out _ ?_ ?_ ?_ ?_).mono ?_
       focus (exact HE.out.below H3.out)
       focus (exact HD.out.below (Nat.le_refl _) H3.out)
       focus (exact HK.out.below (Nat.le_refl _) H3.out)
       focus (exact HT.out.below (Nat.le_refl _) H3.out)
       rintro e w4 ⟨R4, er4, A4, N4, c4, hr4, rfl, hN4, hc4, hs4, hb4⟩
       have H4 := Lib.hid (below_step H3.out hb4)
       have HB4 := Lib.hid (HB3.out.call hb4)
       obtain ⟨d0, d1⟩ := blk2 HB4.out
       have HN4 := Lib.hid hN4
       have HR4 := Lib.hid hr4
       have HSa4 := Lib.hid hs4
       clear hr4 hN4 hc4 hs4
       clear hb4)
    | (go_at_call 26
       with_reducible refine (S5.out _ ?_ ?_ ?_ ?_).mono ?_
       focus (exact HE.out.below H4.out)
       focus (exact HD.out.below (Nat.le_refl _) H4.out)
       focus (exact HK.out.below (Nat.le_refl _) H4.out)
       focus (exact HT.out.below (Nat.le_refl _) H4.out)
       rintro e w5 ⟨R5, er5, A5, N5, c5, hr5, rfl, hN5, hc5, hs5, hb5⟩
       have H5 := Lib.hid (below_step H4.out hb5)
       have HB5 := Lib.hid (HB4.out.call hb5)
       obtain ⟨d0, d1⟩ := blk2 HB5.out
       have HN5 := Lib.hid hN5
       have HR5 := Lib.hid hr5
       have HSb5 := Lib.hid hs5
       have HSa5 := Lib.hid (HSa4.out.below (Nat.le_refl _) hb5)
       clear hr5 hN5 hc5 hs5
       clear hb5)
    | (go_at_call 27
       with_reducible refine (S6.out _ ?_ ?_ ?_).mono ?_
       focus (exact HD.out.below (Nat.le_refl _) H5.out)
       focus (exact HK.out.below (Nat.le_refl _) H5.out)
       focus (exact HT.out.below (Nat.le_refl _) H5.out)
       rintro e w6 ⟨R6, er6, A6, N6, c6, hr6, rfl, hN6, hc6, hs6, hb6⟩
       obtain ⟨rfl, rfl⟩ := HR4.out.uniq hr6
       obtain rfl : N6 = N4 := hN6.trans HN4.out.symm
       have H6 := Lib.hid (below_step H5.out hb6)
       have HB6 := Lib.hid (HB5.out.call hb6)
       obtain ⟨d0, d1⟩ := blk2 HB6.out
       have HSc6 := Lib.hid hs6
       have HSa6 := Lib.hid (HSa5.out.below (Nat.le_refl _) hb6)
       have HSb6 := Lib.hid (HSb5.out.below (Nat.le_refl _) hb6)
       clear hr6 hN6 hc6 hs6
       clear hb6)
    | (go_at_call 28
       with_reducible refine (S7.out _ ?_ ?_ ?_).mono ?_
       focus (exact HD.out.below (Nat.le_refl _) H6.out)
       focus (exact HK.out.below (Nat.le_refl _) H6.out)
       focus (exact HT.out.below (Nat.le_refl _) H6.out)
       rintro e w7 ⟨R7, er7, A7, N7, c7, hr7, rfl, hN7, hc7, hs7, hb7⟩
       obtain ⟨rfl, rfl⟩ := HR5.out.uniq hr7
       obtain rfl : N7 = N5 := hN7.trans HN5.out.symm
       have H7 := Lib.hid (below_step H6.out hb7)
       have HB7 := Lib.hid (HB6.out.call hb7)
       obtain ⟨d0, d1⟩ := blk2 HB7.out
       have HSd7 := Lib.hid hs7
       have HSa7 := Lib.hid (HSa6.out.below (Nat.le_refl _) hb7)
       have HSb7 := Lib.hid (HSb6.out.below (Nat.le_refl _) hb7)
       have HSc7 := Lib.hid (HSc6.out.below (Nat.le_refl _) hb7)
       clear hr7 hN7 hc7 hs7
       clear hb7)
    | (go_at_call 16
       with_reducible refine (sequal_same _ _ _ _ _ _ _ HSa7.out HSc7.out).mono ?_
       rintro e w8 ⟨rfl, hb8⟩
       have H8 := Lib.hid (below_step H7.out hb8)
       have HB8 := Lib.hid (HB7.out.call hb8)
       have HSb8 := Lib.hid (HSb7.out.below (Nat.le_refl _) hb8)
       have HSd8 := Lib.hid (HSd7.out.below (Nat.le_refl _) hb8)
       clear hb8)
    | (go_at_call 16
       with_reducible refine (sequal_same _ _ _ _ _ _ _ HSb8.out HSd8.out).mono ?_
       rintro e w9 ⟨rfl, hb9⟩
       have H9 := Lib.hid (below_step H8.out hb9)
       have HB9 := Lib.hid (HB8.out.call hb9)
       clear hb9))
  go_ret
  exact ⟨rfl, H9.out⟩
end Go.Proofs.YtfgakaielfekoaaGreatDoor

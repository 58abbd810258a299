/- The walk of the law ReportsRead. -/
import Derived.Test.YtfgakaielfekoaaGreatDoorMgB
import Derived.Test.YtfgakaielfekoaaGreatDoorLgh
import Derived.Test.YtfgakaielfekoaaGreatDoorTno
import Derived.Test.YtfgakaielfekoaaGreatDoorTov
import Derived.Test.YtfgakaielfekoaaGreatDoorRdp
namespace Go.Proofs.YtfgakaielfekoaaGreatDoor
open Go.RowKit
set_option linter.unusedVariables false
set_option linter.unusedSimpArgs false

theorem LinPost.imp {w w' : World} {Is Js : List ByteArray → Int → Prop} {e : Ending} (h : LinPost w Is e w') (hi : ∀ R er, Is R er → Js R er) : LinPost w Js e w' := by
  obtain ⟨R, er, A, N, cap, h1, h2⟩ := h
  exact ⟨R, er, A, N, cap, hi R er h1, h2⟩
theorem nodes_bad {D : Nds} {n : Nat} {K : Lks} {m : Nat} {S : Sts} {s : Nat} (h : ¬ stsP D n K m S s) (R : List ByteArray) (er : Int) (hi : NodesIs D n K m S s R er) : R = [] ∧ er = 1 := by
  rcases hi with ⟨_, b, c⟩ | ⟨a, _⟩ | ⟨a, _⟩
  · exact ⟨b, c⟩
  · exact absurd a h
  · exact absurd a h
theorem nodes_none {D : Nds} {n : Nat} {K : Lks} {m : Nat} {S : Sts} {s : Nat} (h : stsP D n K m S s) (h0 : s = 0) (R : List ByteArray) (er : Int) (hi : NodesIs D n K m S s R er) : R = [] ∧ er = 14 := by
  rcases hi with ⟨a, _⟩ | ⟨_, _, b, c⟩ | ⟨_, a, _⟩
  · exact absurd h a
  · exact ⟨b, c⟩
  · omega
theorem nodes_good {D : Nds} {n : Nat} {K : Lks} {m : Nat} {S : Sts} {s : Nat} (h : stsP D n K m S s) (h0 : 1 ≤ s) (R : List ByteArray) (er : Int) (hi : NodesIs D n K m S s R er) : R = nout D S s n ∧ er = 0 := by
  rcases hi with ⟨a, _⟩ | ⟨_, a, _⟩ | ⟨_, _, b, c⟩
  · exact absurd h a
  · omega
  · exact ⟨b, c⟩
theorem over_bad {D : Nds} {n : Nat} {K : Lks} {m : Nat} {S : Sts} {s : Nat} {sec : Int} (h : ¬ stsP D n K m S s) (R : List ByteArray) (er : Int) (hi : OverIs D n K m S s sec R er) : R = [] ∧ er = 1 := by
  rcases hi with ⟨_, b, c⟩ | ⟨a, _⟩ | ⟨a, _⟩
  · exact ⟨b, c⟩
  · exact absurd a h
  · exact absurd a h
theorem over_sec {D : Nds} {n : Nat} {K : Lks} {m : Nat} {S : Sts} {s : Nat} {sec : Int} (h : stsP D n K m S s) (h2 : ¬ (1 ≤ sec ∧ sec ≤ 86400)) (R : List ByteArray) (er : Int) (hi : OverIs D n K m S s sec R er) : R = [] ∧ er = 2 := by
  rcases hi with ⟨a, _⟩ | ⟨_, _, b, c⟩ | ⟨_, a, _⟩
  · exact absurd h a
  · exact ⟨b, c⟩
  · exact absurd a h2
theorem over_good {D : Nds} {n : Nat} {K : Lks} {m : Nat} {S : Sts} {s : Nat} {sec : Int} (h : stsP D n K m S s) (h2 : 1 ≤ sec ∧ sec ≤ 86400) (R : List ByteArray) (er : Int) (hi : OverIs D n K m S s sec R er) : R = oout D S s sec n ∧ er = 0 := by
  rcases hi with ⟨a, _⟩ | ⟨_, a, _⟩ | ⟨_, _, b, c⟩
  · exact absurd h a
  · exact absurd h2 a
  · exact ⟨b, c⟩
theorem sec_bd {l x : Int} {s : Nat} (h : 1 ≤ l ∧ l ≤ (s : Int)) (h20 : s ≤ 20) (hs : 1 ≤ x ∧ x ≤ 86400) : x ≤ l * x ∧ l * x ≤ x * (s : Int) ∧ 0 ≤ x * (s : Int) ∧ x * (s : Int) ≤ 1728000 := by
  have a : 1 * x ≤ l * x := Int.mul_le_mul_of_nonneg_right h.1 (by omega)
  have b : l * x ≤ (s : Int) * x := Int.mul_le_mul_of_nonneg_right h.2 (by omega)
  have c : (s : Int) * x ≤ 20 * x := Int.mul_le_mul_of_nonneg_right (by omega) (by omega)
  rw [Int.mul_comm x]
  omega
theorem str_tail {w : World} {b off N : Nat} {X : Nat → ByteArray} (h : StrIn w (some ⟨b, off, none⟩) (N + 3) X) : StrIn w (some ⟨b, off + 3, none⟩) N (fun k => X (3 + k)) := by
  refine ⟨by have := h.1; omega, ?_⟩
  rcases h.2 with h0 | ⟨b', off', hA, h1, h2⟩
  · omega
  · injection hA with hA
    injection hA with e1 e2
    subst e1 e2
    refine .inr ⟨b, off + 3, rfl, h1, fun k hk => ?_⟩
    have := h2 (3 + k) (by omega)
    rw [← Nat.add_assoc] at this
    exact this
theorem str_none {w : World} {A : Option Addr} {X : Nat → ByteArray} : StrIn w A 0 X := ⟨by omega, .inl rfl⟩
set_option maxRecDepth 100000 in
set_option maxHeartbeats 64000000 in
theorem read_walk (NA LA : Option Addr) (n nc m lc : Nat) (D : Nds) (K : Lks) (A : Option Addr) (s c : Nat) (S : Sts) (sec : Int) (w : World) (hE : Env5 w) (hD : NdIn w NA n D) (hK : LkIn w LA m K) (hT : StIn w A s S) :
    Calls Tryz.prog 6 #[.agg #[.slice NA n nc, .slice LA m lc], .slice A s c, .int .i64 sec] w fun e w' => e = .returned (.bool true) ∧ Below w.heap.size w w' := by
  have HE := Lib.hid hE
  have HD := Lib.hid hD
  have HK := Lib.hid hK
  have HT := Lib.hid hT
  have H0 : Hid (Below w.heap.size w (w.alloc (Obj.cells #[.slice NA n nc, .slice LA m lc] 25))) := (Below.refl _ w).alloc (Nat.le_refl _) _
  have HB0 := Lib.hid (Blk.new w 25 #[.slice NA n nc, .slice LA m lc])
  have SA := Lib.hid fun w hE => caw5 w hE
  have sg := fun w hD hK => tlarge NA LA n nc m lc D K w hD hK
  by_cases h1 : lgP D n K m
  case pos =>
    rw [boolOf_true h1] at sg
    have SG := Lib.hid sg
    clear sg h1 hE hD hK hT
    go_enter Tryz.func6, Tryz.ntmps6
    go_wp2_with (first
      | (go_at_call 8
         with_reducible refine (SA.out _ ?_).mono ?_
         focus (exact HE.out.below H0.out)
         rintro e w1 ⟨rfl, hb1⟩
         have H1 := Lib.hid (below_step H0.out hb1)
         have HB1 := Lib.hid (HB0.out.call hb1)
         obtain ⟨d0, d1⟩ := blk2 HB1.out
         clear hb1)
      | (go_at_call 9
         with_reducible refine (SG.out _ ?_ ?_).mono ?_
         focus (exact HD.out.below (Nat.le_refl _) H1.out)
         focus (exact HK.out.below (Nat.le_refl _) H1.out)
         rintro e w2 ⟨rfl, hb2⟩
         have H2 := Lib.hid (below_step H1.out hb2)
         have HB2 := Lib.hid (HB1.out.call hb2)
         obtain ⟨d0, d1⟩ := blk2 HB2.out
         clear hb2))
    go_ret
    exact ⟨rfl, H2.out⟩
  rw [boolOf_false h1] at sg
  have SG := Lib.hid sg
  have sh := fun w hT => theavy A s c S w hT
  by_cases h2 : hvP S s
  case pos =>
    rw [boolOf_true h2] at sh
    have SH := Lib.hid sh
    clear sg sh h1 h2 hE hD hK hT
    go_enter Tryz.func6, Tryz.ntmps6
    go_wp2_with (first
      | (go_at_call 8
         with_reducible refine (SA.out _ ?_).mono ?_
         focus (exact HE.out.below H0.out)
         rintro e w1 ⟨rfl, hb1⟩
         have H1 := Lib.hid (below_step H0.out hb1)
         have HB1 := Lib.hid (HB0.out.call hb1)
         obtain ⟨d0, d1⟩ := blk2 HB1.out
         clear hb1)
      | (go_at_call 9
         with_reducible refine (SG.out _ ?_ ?_).mono ?_
         focus (exact HD.out.below (Nat.le_refl _) H1.out)
         focus (exact HK.out.below (Nat.le_refl _) H1.out)
         rintro e w2 ⟨rfl, hb2⟩
         have H2 := Lib.hid (below_step H1.out hb2)
         have HB2 := Lib.hid (HB1.out.call hb2)
         obtain ⟨d0, d1⟩ := blk2 HB2.out
         clear hb2)
      | (go_at_call 17
         with_reducible refine (SH.out _ ?_).mono ?_
         focus (exact HT.out.below (Nat.le_refl _) H2.out)
         rintro e w3 ⟨rfl, hb3⟩
         have H3 := Lib.hid (below_step H2.out hb3)
         have HB3 := Lib.hid (HB2.out.call hb3)
         obtain ⟨d0, d1⟩ := blk2 HB3.out
         clear hb3))
    go_ret
    exact ⟨rfl, H3.out⟩
  rw [boolOf_false h2] at sh
  have SH := Lib.hid sh
  obtain ⟨h14, h16, hnd, hlk⟩ := lg_not h1
  obtain ⟨h20, hst⟩ := hv_not h2
  have hz := lg_sz h1
  have hnm : ∀ i, i < n → (D.Nm i).size ≤ 60 := fun i hi => (hnd i hi).2
  have hs : ∀ k, k < s → S.VN k ≤ 2000 ∧ S.PN k ≤ 2000 ∧ S.SN k ≤ 2000 ∧ S.ON k ≤ 2000 := fun k hk => by have := hst k hk; omega
  have s4 := fun w hE hD hK ht => tNodes NA LA n nc m lc D K hz A s c S h20 h14 hnm hs w hE hD hK ht
  have s5 := fun w hE hD hK ht => tOver NA LA n nc m lc D K hz A s c S sec h20 h14 hnm hs w hE hD hK ht
  have H20 := Lib.hid h20
  have H14 := Lib.hid h14
  have HNM := Lib.hid hnm
  have HSS := Lib.hid hs
  by_cases g0 : stsP D n K m S s
  case neg =>
    have S4 := Lib.hid fun w hE hD hK ht => (s4 w hE hD hK ht).mono fun e w' h => h.imp (nodes_bad g0)
    have S5 := Lib.hid fun w hE hD hK ht => (s5 w hE hD hK ht).mono fun e w' h => h.imp (over_bad g0)
    clear sg sh s4 s5 g0 h1 h2 hE hD hK hT h14 h16 hnd hlk h20 hst hz hnm hs
    go_enter Tryz.func6, Tryz.ntmps6
    go_wp2_with (first
      | (go_at_call 8
         with_reducible refine (SA.out _ ?_).mono ?_
         focus (exact HE.out.below H0.out)
         rintro e w1 ⟨rfl, hb1⟩
         have H1 := Lib.hid (below_step H0.out hb1)
         have HB1 := Lib.hid (HB0.out.call hb1)
         obtain ⟨d0, d1⟩ := blk2 HB1.out
         clear hb1)
      | (go_at_call 9
         with_reducible refine (SG.out _ ?_ ?_).mono ?_
         focus (exact HD.out.below (Nat.le_refl _) H1.out)
         focus (exact HK.out.below (Nat.le_refl _) H1.out)
         rintro e w2 ⟨rfl, hb2⟩
         have H2 := Lib.hid (below_step H1.out hb2)
         have HB2 := Lib.hid (HB1.out.call hb2)
         obtain ⟨d0, d1⟩ := blk2 HB2.out
         clear hb2)
      | (go_at_call 17
         with_reducible refine (SH.out _ ?_).mono ?_
         focus (exact HT.out.below (Nat.le_refl _) H2.out)
         rintro e w3 ⟨rfl, hb3⟩
         have H3 := Lib.hid (below_step H2.out hb3)
         have HB3 := Lib.hid (HB2.out.call hb3)
         obtain ⟨d0, d1⟩ := blk2 HB3.out
         clear hb3)
      | (go_at_call 18
         with_reducible refine (S4.out _ ?_ ?_ ?_ ?_).mono ?_
         focus (exact HE.out.below H3.out)
         focus (exact HD.out.below (Nat.le_refl _) H3.out)
         focus (exact HK.out.below (Nat.le_refl _) H3.out)
         focus (exact HT.out.below (Nat.le_refl _) H3.out)
         rintro e w4 ⟨R4, er4, A4, N4, c4, hr4, rfl, hN4, hc4, hs4, hb4⟩
         have H4 := Lib.hid (below_step H3.out hb4)
         have HB4 := Lib.hid (HB3.out.call hb4)
         obtain ⟨d0, d1⟩ := blk2 HB4.out
         have hz4 : N4 = 0 := by rw [hN4, hr4.1]; rfl
         clear hN4 hc4 hs4
         obtain ⟨rfl, rfl⟩ := hr4
         subst hz4
         clear hb4)
      | (go_at_call 26
         with_reducible refine (S5.out _ ?_ ?_ ?_ ?_).mono ?_
         focus (exact HE.out.below H4.out)
         focus (exact HD.out.below (Nat.le_refl _) H4.out)
         focus (exact HK.out.below (Nat.le_refl _) H4.out)
         focus (exact HT.out.below (Nat.le_refl _) H4.out)
         rintro e w5 ⟨R5, er5, A5, N5, c5, hr5, rfl, hN5, hc5, hs5, hb5⟩
         have H5 := Lib.hid (below_step H4.out hb5)
         have HB5 := Lib.hid (HB4.out.call hb5)
         obtain ⟨d0, d1⟩ := blk2 HB5.out
         have hz5 : N5 = 0 := by rw [hN5, hr5.1]; rfl
         clear hN5 hc5 hs5
         obtain ⟨rfl, rfl⟩ := hr5
         subst hz5
         clear hb5))
    go_ret
    exact ⟨rfl, H5.out⟩
  have HG := Lib.hid g0
  by_cases g1 : s = 0
  case pos =>
    have S4 := Lib.hid fun w hE hD hK ht => (s4 w hE hD hK ht).mono fun e w' h => h.imp (nodes_none g0 g1)
    have HS0 := Lib.hid g1
    by_cases g2 : 1 ≤ sec ∧ sec ≤ 86400
    case neg =>
      have S5 := Lib.hid fun w hE hD hK ht => (s5 w hE hD hK ht).mono fun e w' h => h.imp (over_sec g0 g2)
      clear sg sh s4 s5 g0 g1 g2 h1 h2 hE hD hK hT h14 h16 hnd hlk h20 hst hz hnm hs
      go_enter Tryz.func6, Tryz.ntmps6
      go_wp2_with (first
        | (go_at_call 8
           with_reducible refine (SA.out _ ?_).mono ?_
           focus (exact HE.out.below H0.out)
           rintro e w1 ⟨rfl, hb1⟩
           have H1 := Lib.hid (below_step H0.out hb1)
           have HB1 := Lib.hid (HB0.out.call hb1)
           obtain ⟨d0, d1⟩ := blk2 HB1.out
           clear hb1)
        | (go_at_call 9
           with_reducible refine (SG.out _ ?_ ?_).mono ?_
           focus (exact HD.out.below (Nat.le_refl _) H1.out)
           focus (exact HK.out.below (Nat.le_refl _) H1.out)
           rintro e w2 ⟨rfl, hb2⟩
           have H2 := Lib.hid (below_step H1.out hb2)
           have HB2 := Lib.hid (HB1.out.call hb2)
           obtain ⟨d0, d1⟩ := blk2 HB2.out
           clear hb2)
        | (go_at_call 17
           with_reducible refine (SH.out _ ?_).mono ?_
           focus (exact HT.out.below (Nat.le_refl _) H2.out)
           rintro e w3 ⟨rfl, hb3⟩
           have H3 := Lib.hid (below_step H2.out hb3)
           have HB3 := Lib.hid (HB2.out.call hb3)
           obtain ⟨d0, d1⟩ := blk2 HB3.out
           clear hb3)
        | (go_at_call 18
           with_reducible refine (S4.out _ ?_ ?_ ?_ ?_).mono ?_
           focus (exact HE.out.below H3.out)
           focus (exact HD.out.below (Nat.le_refl _) H3.out)
           focus (exact HK.out.below (Nat.le_refl _) H3.out)
           focus (exact HT.out.below (Nat.le_refl _) H3.out)
           rintro e w4 ⟨R4, er4, A4, N4, c4, hr4, rfl, hN4, hc4, hs4, hb4⟩
           have H4 := Lib.hid (below_step H3.out hb4)
           have HB4 := Lib.hid (HB3.out.call hb4)
           obtain ⟨d0, d1⟩ := blk2 HB4.out
           have hz4 : N4 = 0 := by rw [hN4, hr4.1]; rfl
           clear hN4 hc4 hs4
           obtain ⟨rfl, rfl⟩ := hr4
           subst hz4
           clear hb4)
        | (go_at_call 26
           with_reducible refine (S5.out _ ?_ ?_ ?_ ?_).mono ?_
           focus (exact HE.out.below H4.out)
           focus (exact HD.out.below (Nat.le_refl _) H4.out)
           focus (exact HK.out.below (Nat.le_refl _) H4.out)
           focus (exact HT.out.below (Nat.le_refl _) H4.out)
           rintro e w5 ⟨R5, er5, A5, N5, c5, hr5, rfl, hN5, hc5, hs5, hb5⟩
           have H5 := Lib.hid (below_step H4.out hb5)
           have HB5 := Lib.hid (HB4.out.call hb5)
           obtain ⟨d0, d1⟩ := blk2 HB5.out
           have hz5 : N5 = 0 := by rw [hN5, hr5.1]; rfl
           clear hN5 hc5 hs5
           obtain ⟨rfl, rfl⟩ := hr5
           subst hz5
           clear hb5))
      go_ret
      exact ⟨rfl, H5.out⟩
    have S5 := Lib.hid fun w hE hD hK ht => (s5 w hE hD hK ht).mono fun e w' h => h.imp (over_good g0 g2)
    have HSC := Lib.hid g2
    clear sg sh s4 s5 g0 g1 g2 h1 h2 hE hD hK hT h14 h16 hnd hlk h20 hst hz hnm hs
    go_enter Tryz.func6, Tryz.ntmps6
    go_wp2_with (first
      | (go_at_call 8
         with_reducible refine (SA.out _ ?_).mono ?_
         focus (exact HE.out.below H0.out)
         rintro e w1 ⟨rfl, hb1⟩
         have H1 := Lib.hid (below_step H0.out hb1)
         have HB1 := Lib.hid (HB0.out.call hb1)
         obtain ⟨d0, d1⟩ := blk2 HB1.out
         clear hb1)
      | (go_at_call 9
         with_reducible refine (SG.out _ ?_ ?_).mono ?_
         focus (exact HD.out.below (Nat.le_refl _) H1.out)
         focus (exact HK.out.below (Nat.le_refl _) H1.out)
         rintro e w2 ⟨rfl, hb2⟩
         have H2 := Lib.hid (below_step H1.out hb2)
         have HB2 := Lib.hid (HB1.out.call hb2)
         obtain ⟨d0, d1⟩ := blk2 HB2.out
         clear hb2)
      | (go_at_call 17
         with_reducible refine (SH.out _ ?_).mono ?_
         focus (exact HT.out.below (Nat.le_refl _) H2.out)
         rintro e w3 ⟨rfl, hb3⟩
         have H3 := Lib.hid (below_step H2.out hb3)
         have HB3 := Lib.hid (HB2.out.call hb3)
         obtain ⟨d0, d1⟩ := blk2 HB3.out
         clear hb3)
      | (go_at_call 18
         with_reducible refine (S4.out _ ?_ ?_ ?_ ?_).mono ?_
         focus (exact HE.out.below H3.out)
         focus (exact HD.out.below (Nat.le_refl _) H3.out)
         focus (exact HK.out.below (Nat.le_refl _) H3.out)
         focus (exact HT.out.below (Nat.le_refl _) H3.out)
         rintro e w4 ⟨R4, er4, A4, N4, c4, hr4, rfl, hN4, hc4, hs4, hb4⟩
         have H4 := Lib.hid (below_step H3.out hb4)
         have HB4 := Lib.hid (HB3.out.call hb4)
         obtain ⟨d0, d1⟩ := blk2 HB4.out
         have hz4 : N4 = 0 := by rw [hN4, hr4.1]; rfl
         clear hN4 hc4 hs4
         obtain ⟨rfl, rfl⟩ := hr4
         subst hz4
         clear hb4)
      | (go_at_call 26
         with_reducible refine (S5.out _ ?_ ?_ ?_ ?_).mono ?_
         focus (exact HE.out.below H4.out)
         focus (exact HD.out.below (Nat.le_refl _) H4.out)
         focus (exact HK.out.below (Nat.le_refl _) H4.out)
         focus (exact HT.out.below (Nat.le_refl _) H4.out)
         rintro e w5 ⟨R5, er5, A5, N5, c5, hr5, rfl, hN5, hc5, hs5, hb5⟩
         have H5 := Lib.hid (below_step H4.out hb5)
         have HB5 := Lib.hid (HB4.out.call hb5)
         obtain ⟨d0, d1⟩ := blk2 HB5.out
         obtain ⟨rfl, rfl⟩ := hr5
         have HN5 := Lib.hid hN5
         have HC5 := Lib.hid hc5
         have HSb5 := Lib.hid hs5
         clear hN5 hc5 hs5
         clear hb5))
    go_loopw [23, 187] (fun bv v wr => ∃ (i : Nat) (A6 : Option Addr) (N6 c6 : Nat), Hid (i ≤ n) ∧ v = .int .i64 i ∧ bv = .slice A6 N6 c6 ∧ Hid (N6 ≤ c6) ∧ Hid (N6 + (oout D S s sec i).length = (oout D S s sec n).length) ∧ Hid (StrIn wr A6 N6 (fun k => (oout D S s sec n).getD ((oout D S s sec i).length + k) ByteArray.empty)) ∧ Hid (Below w5.heap.size w5 wr)) (fun _ v _ => n - (RowKit.intOf v).toNat)
    case atStart => exact ⟨0, A5, N5, c5, Nat.zero_le _, rfl, rfl, HC5.out, by show N5 + 0 = _; rw [HN5.out]; rfl, by show StrIn _ _ _ (fun k => (oout D S s sec n).getD ((oout D S s sec 0).length + k) ByteArray.empty); have e : (fun k => (oout D S s sec n).getD ((oout D S s sec 0).length + k) ByteArray.empty) = fun k => (oout D S s sec n).getD k ByteArray.empty := (by funext k; rw [show (oout D S s sec 0).length = 0 from rfl, Nat.zero_add]); rw [e]; exact HSb5.out, Below.refl _ _⟩
    case round => as_aux_lemma =>
      obtain ⟨i, A6, N6, c6, Hi, rfl, rfl, HC6, HN6, HS6, HW⟩ := hrel
      have HWr : Hid (Below w.heap.size w wr) := below_step H5.out HW.out
      have HBr := Lib.hid (HB5.out.call HW.out)
      obtain ⟨d0, d1⟩ := blk2 HBr.out
      by_cases hlt : i < n
      · have T0 : decide ((i : Int) < (n : Int)) = true := by simp <;> omega
        have T0' : decide (i < n) = true := decide_eq_true hlt
        obtain ⟨i', hi'⟩ : ∃ z, z = i + 1 := ⟨_, rfl⟩
        have x0 : IntKind.i64.wrap ((i : Int) + 1) = (i' : Int) := by have := H14.out; rw [IntKind.wrap_i64]; omega
        have HI' : Hid (i' ≤ n) := by show i' ≤ n; omega
        have HMS : Hid (n - (RowKit.intOf (Value.int .i64 (i' : Int))).toNat < n - (RowKit.intOf (Value.int .i64 (i : Int))).toNat) := by show _ < _; simp [RowKit.intOf]; omega
        have k0 : (0 : Int) ≤ (i : Int) := by omega
        have k1 : (i : Int) < (n : Int) := by omega

        obtain ⟨b, off, rfl, hb, hC, htab⟩ := (HD.out.below (Nat.le_refl _) HWr.out).at hlt
        have c0 := hC 0 _ rfl
        have c1 := hC 1 _ rfl
        have c2 := hC 2 _ rfl
        have c3 := hC 3 _ rfl
        have c4 := hC 4 _ rfl
        have c5 := hC 5 _ rfl
        have c6 := hC 6 _ rfl
        have c7 := hC 7 _ rfl
        have c8 := hC 8 _ rfl
        simp only [Nat.add_zero] at c0
        have hsz := HNM.out i hlt
        have HLT := Lib.hid hlt
        have HTB := Lib.hid htab
        have HND := Lib.hid (HG.out.node hlt)
        have hpb : ∀ k, k < s → 0 ≤ S.P k i ∧ S.P k i ≤ 1125899906842624 := fun k hk => (HG.out.vol hk hlt).2.1
        have hpo : ∀ k, k < s → i < S.PN k ∧ S.PN k ≤ 2000 ∧ 0 ≤ S.P k i ∧ S.P k i ≤ 1125899906842624 := fun k hk => ⟨(HG.out.vol hk hlt).2.2.2, (HSS.out k hk).2.1, hpb k hk⟩
        have SO : Hid (∀ w, StIn w A s S → Calls Tryz.prog 31 #[.slice A s c, .int .i64 (i : Int)] w (OfPost w (oev S s i))) := fun w ht => tOf A s c S i H20.out hpo w ht
        have HO : Hid (OGood s (oev S s i)) := oev_good H20.out hpb
        have htt := tot_small (v := fun k => S.P k i) H20.out hpb
        have HL0 : Hid (oev S s i = [] → (oout D S s sec (i + 1)).length = (oout D S s sec i).length) := oout_same
        have HL1 := Lib.hid fun h => oout_at (D := D) (S := S) (s := s) (sec := sec) HLT.out h
        rw [← hi'] at HL0 HL1
        have htt : psum (evsOf (oev S s i)).Tot (oev S s i).length ≤ 22517998136852480 := htt
        have he0 : oev S s i = [] := by show runs _ s = []; rw [HS0.out]; rfl
        generalize oev S s i = ev at SO HO HL0 HL1 htt he0
        obtain ⟨q, hq⟩ : ∃ q, q = ev.length := ⟨_, rfl⟩
        have HQL := Lib.hid hq
        have SCT : Hid (∀ A c w, EvIn w A q (evsOf ev) → Calls Tryz.prog 32 #[.slice A q c] w (CntPost w q (evsOf ev))) := fun A c w ht => by subst hq; exact tCount A _ c _ HO.out.cnt w ht
        clear hC htab hlt hpb hpo hi'
        go_upto_region 36 with fail
        have hal : Below wr.heap.size wr (wr.alloc (Obj.cells #[.string (D.Nm i), .int .i64 (D.Kd i), .int .i64 (D.Ax i), .int .i64 (D.Ay i), .int .i64 (D.Iv i), .int .i64 (D.Gd i), .slice (D.SA i) (D.SN i) (D.SC i), .bool (D.Pt i), .int .i64 (D.Rs i)] 65)) := (Below.refl _ wr).alloc (Nat.le_refl _) _
        have HBG := Lib.hid (Blk.new wr 65 #[.string (D.Nm i), .int .i64 (D.Kd i), .int .i64 (D.Ax i), .int .i64 (D.Ay i), .int .i64 (D.Iv i), .int .i64 (D.Gd i), .slice (D.SA i) (D.SN i) (D.SC i), .bool (D.Pt i), .int .i64 (D.Rs i)])
        have HX0 := Lib.hid (below_step HW.out hal)
        have HXW := Lib.hid (below_step HWr.out hal)
        have HXB := Lib.hid (HBr.out.call hal)
        have HS6x := Lib.hid (HS6.out.below (Nat.le_refl _) hal)
        clear hal d0 d1 c0 c1 c2 c3 c4 c5 c6 c7 c8 hb HWr HBr HTB
        generalize wr.alloc (Obj.cells #[.string (D.Nm i), .int .i64 (D.Kd i), .int .i64 (D.Ax i), .int .i64 (D.Ay i), .int .i64 (D.Iv i), .int .i64 (D.Gd i), .slice (D.SA i) (D.SN i) (D.SC i), .bool (D.Pt i), .int .i64 (D.Rs i)] 65) = wx at *
        generalize wr.heap.size = G at *
        have hev : ev = [] := he0
        have hq0 : q = 0 := by rw [HQL.out, hev]; rfl
        have HN6' : Hid (N6 + (oout D S s sec i').length = (oout D S s sec n).length) := by show _ = _; rw [HL0.out hev]; exact HN6.out
        have HEQ : Hid ((oout D S s sec i').length = (oout D S s sec i).length) := HL0.out hev
        clear hev he0 HL0 HL1 HO hq htt
        subst hq0
        go_wp2_with (first
          | (go_at_call 31
             with_reducible refine (SO.out _ ?_).mono ?_
             focus (exact HT.out.below (Nat.le_refl _) HXW.out)
             rintro e u5 ⟨A3, N3, cap3, rfl, hN3, hc3, hE3, hb5⟩
             obtain rfl : N3 = 0 := hN3.trans HQL.out.symm
             have HE3 := Lib.hid hE3
             have HX5 := Lib.hid (below_step HX0.out hb5)
             have HS65 := Lib.hid (HS6x.out.below (Nat.le_refl _) hb5)
             clear hN3 hc3 hE3 hb5)
          | (go_at_call 32
             with_reducible refine (SCT.out _ _ _ ?_).mono ?_
             focus (exact HE3.out)
             rintro e u6 ⟨⟨g, rfl⟩, hb6⟩
             have HX6 := Lib.hid (below_step HX5.out hb6)
             have HS66 := Lib.hid (HS65.out.below (Nat.le_refl _) hb6)
             clear hb6))
        go_roundw
        case rel => exact ⟨i', A6, N6, c6, HI', rfl, rfl, HC6, HN6', by rw [HEQ.out]; exact HS66, HX6⟩
        case measure => exact HMS.out
      · have T0 : decide ((i : Int) < (n : Int)) = false := by simp <;> omega
        have T0' : decide (i < n) = false := decide_eq_false hlt
        have hin : i = n := by have := Hi.out; omega

        have HNE : Hid (N6 = 0) := by show N6 = 0; have := HN6.out; rw [hin] at this; omega
        obtain rfl : N6 = 0 := HNE.out
        clear hin hlt
        go_wp2_with fail
        go_ret
        exact ⟨rfl, HWr.out⟩
  have S4 := Lib.hid fun w hE hD hK ht => (s4 w hE hD hK ht).mono fun e w' h => h.imp (nodes_good g0 (by omega))
  have HS1 : Hid (1 ≤ s) := by show 1 ≤ s; omega
  have H5N := Lib.hid fun (g2 : ¬ (1 ≤ sec ∧ sec ≤ 86400)) w hE hD hK ht => (s5 w hE hD hK ht).mono fun e w' h => h.imp (over_sec g0 g2)
  have H5Y := Lib.hid fun (g2 : 1 ≤ sec ∧ sec ≤ 86400) w hE hD hK ht => (s5 w hE hD hK ht).mono fun e w' h => h.imp (over_good g0 g2)
  clear sg sh s4 s5 g0 g1 h1 h2 hE hD hK hT h14 h16 hnd hlk h20 hst hz hnm hs
  go_enter Tryz.func6, Tryz.ntmps6
  have y4 : IntKind.i64.wrap (2 * (n : Int)) = 2 * (n : Int) := by have := H14.out; rw [IntKind.wrap_i64]; omega
  go_wp2_with (first
    | (go_at_call 8
       with_reducible refine (SA.out _ ?_).mono ?_
       focus (exact HE.out.below H0.out)
       rintro e w1 ⟨rfl, hb1⟩
       have H1 := Lib.hid (below_step H0.out hb1)
       have HB1 := Lib.hid (HB0.out.call hb1)
       obtain ⟨d0, d1⟩ := blk2 HB1.out
       clear hb1)
    | (go_at_call 9
       with_reducible refine (SG.out _ ?_ ?_).mono ?_
       focus (exact HD.out.below (Nat.le_refl _) H1.out)
       focus (exact HK.out.below (Nat.le_refl _) H1.out)
       rintro e w2 ⟨rfl, hb2⟩
       have H2 := Lib.hid (below_step H1.out hb2)
       have HB2 := Lib.hid (HB1.out.call hb2)
       obtain ⟨d0, d1⟩ := blk2 HB2.out
       clear hb2)
    | (go_at_call 17
       with_reducible refine (SH.out _ ?_).mono ?_
       focus (exact HT.out.below (Nat.le_refl _) H2.out)
       rintro e w3 ⟨rfl, hb3⟩
       have H3 := Lib.hid (below_step H2.out hb3)
       have HB3 := Lib.hid (HB2.out.call hb3)
       obtain ⟨d0, d1⟩ := blk2 HB3.out
       clear hb3)
    | (go_at_call 18
       with_reducible refine (S4.out _ ?_ ?_ ?_ ?_).mono ?_
       focus (exact HE.out.below H3.out)
       focus (exact HD.out.below (Nat.le_refl _) H3.out)
       focus (exact HK.out.below (Nat.le_refl _) H3.out)
       focus (exact HT.out.below (Nat.le_refl _) H3.out)
       rintro e w4 ⟨R4, er4, A4, N4, c4, hr4, rfl, hN4, hc4, hs4, hb4⟩
       have H4 := Lib.hid (below_step H3.out hb4)
       have HB4 := Lib.hid (HB3.out.call hb4)
       obtain ⟨d0, d1⟩ := blk2 HB4.out
       have hz4 : N4 = 2 * n := by rw [hN4, hr4.1, nout_len]
       obtain ⟨rfl, rfl⟩ := hr4
       have HSa4 := Lib.hid hs4
       clear hN4 hc4 hs4
       subst hz4
       clear hb4))
  go_loopw [67] (fun v wr => ∃ (i : Nat), Hid (i ≤ n) ∧ v = .int .i64 i ∧ Hid (Below w4.heap.size w4 wr)) (fun v _ => n - (RowKit.intOf v).toNat)
  case atStart => exact ⟨0, Nat.zero_le _, rfl, Below.refl _ _⟩
  case round => as_aux_lemma =>
    obtain ⟨i, Hi, rfl, HW⟩ := hrel
    have HWr : Hid (Below w.heap.size w wr) := below_step H4.out HW.out
    have HBr := Lib.hid (HB4.out.call HW.out)
    obtain ⟨d0, d1⟩ := blk2 HBr.out
    by_cases hlt : i < n
    · have T0 : decide ((i : Int) < (n : Int)) = true := by simp <;> omega
      have T0' : decide (i < n) = true := decide_eq_true hlt
      obtain ⟨i', hi'⟩ : ∃ z, z = i + 1 := ⟨_, rfl⟩
      have x0 : IntKind.i64.wrap ((i : Int) + 1) = (i' : Int) := by have := H14.out; rw [IntKind.wrap_i64]; omega
      have HI' : Hid (i' ≤ n) := by show i' ≤ n; omega
      have HMS : Hid (n - (RowKit.intOf (Value.int .i64 (i' : Int))).toNat < n - (RowKit.intOf (Value.int .i64 (i : Int))).toNat) := by show _ < _; simp [RowKit.intOf]; omega
      have k0 : (0 : Int) ≤ (i : Int) := by omega
      have k1 : (i : Int) < (n : Int) := by omega

      obtain ⟨b, off, rfl, hb, hC, htab⟩ := (HD.out.below (Nat.le_refl _) HWr.out).at hlt
      have c0 := hC 0 _ rfl
      have c1 := hC 1 _ rfl
      have c2 := hC 2 _ rfl
      have c3 := hC 3 _ rfl
      have c4 := hC 4 _ rfl
      have c5 := hC 5 _ rfl
      have c6 := hC 6 _ rfl
      have c7 := hC 7 _ rfl
      have c8 := hC 8 _ rfl
      simp only [Nat.add_zero] at c0
      have hsz := HNM.out i hlt
      have HLT := Lib.hid hlt
      have HTB := Lib.hid htab
      have HND := Lib.hid (HG.out.node hlt)
      have hmp : 0 ≤ mxP S s i ∧ mxP S s i ≤ 1125899906842624 := ⟨mx_nn _ _, mx_le (by omega) fun k hk => (HG.out.vol hk hlt).2.1.2⟩
      have hlv : -4294967296000000 < lvF D i (mxV S s i) ∧ lvF D i (mxV S s i) < 4294967296000000 := lv_bd HND.out (mx_nn (fun k => S.V k i) s)
      have HVL : Hid (∀ k, k < s → (0 ≤ S.V k i ∧ S.V k i ≤ 1125899906842624) ∧ i < S.VN k ∧ i < S.PN k) := fun k hk => ⟨by have h1 := (HG.out.vol hk hlt).1; have h2 := HND.out.lv.2.2; omega, (HG.out.vol hk hlt).2.2.1, (HG.out.vol hk hlt).2.2.2⟩
      have HLE : Hid (∀ k, k < s → lvF D i (S.V k i) ≤ lvF D i (mxV S s i) ∧ S.P k i ≤ mxP S s i) := fun k hk => ⟨lv_ge HND.out (fun k hk => (HVL.out k hk).1.1) hk, mx_ge (fun k => S.P k i) hk⟩
      have HH1 : Hid (hitB (fun k => lvF D i (S.V k i)) (lvF D i (mxV S s i)) s = true) := by
        obtain ⟨k, hk, e⟩ := mx_hit (f := fun k => S.V k i) HS1.out (fun k hk => (HVL.out k hk).1.1)
        exact hitB_at hk (by show lvF D i (S.V k i) = lvF D i (mx (fun k => S.V k i) s); rw [← e])
      have HH2 : Hid (hitB (fun k => S.P k i) (mxP S s i) s = true) := by
        obtain ⟨k, hk, e⟩ := mx_hit (f := fun k => S.P k i) HS1.out (fun k hk => (HG.out.vol hk hlt).2.1.1)
        exact hitB_at hk e
      have SLV : Hid (∀ v w, 0 ≤ v ∧ v ≤ 1125899906842624 → TabIn w (D.SA i) (D.SN i) (D.SX i) (D.SY i) → Calls Tryz.prog 30 #[.agg #[.string (D.Nm i), .int .i64 (D.Kd i), .int .i64 (D.Ax i), .int .i64 (D.Ay i), .int .i64 (D.Iv i), .int .i64 (D.Gd i), .slice (D.SA i) (D.SN i) (D.SC i), .bool (D.Pt i), .int .i64 (D.Rs i)], .int .i64 v] w fun e w' => e = .returned (.tuple #[.int .i64 (lvF D i v), .int .i64 0]) ∧ Below w.heap.size w w') := fun v w hv ht => sLevel (D.Nm i) (D.Kd i) (D.Ax i) (D.Ay i) (D.Iv i) (D.Gd i) (D.SA i) (D.SN i) (D.SC i) (D.SX i) (D.SY i) (D.Pt i) (D.Rs i) v (by unfold maxLen; omega) HND.out hv w ht
      have hl := nout_at D S s hlt
      obtain ⟨i2, hi2⟩ : ∃ z, z = 2 * i := ⟨_, rfl⟩
      obtain ⟨i3, hi3⟩ : ∃ z, z = 2 * i + 1 := ⟨_, rfl⟩
      have x2 : IntKind.i64.wrap (2 * (i : Int)) = (i2 : Int) := by have := H14.out; rw [IntKind.wrap_i64]; omega
      have x3 : IntKind.i64.wrap ((i2 : Int) + 1) = (i3 : Int) := by have := H14.out; rw [IntKind.wrap_i64]; omega
      have j2 : i2 < 2 * n := by omega
      have j3 : i3 < 2 * n := by omega
      have j2' : (i2 : Int) < ((2 * n : Nat) : Int) := by omega
      have j2x : (i2 : Int) < 2 * (n : Int) := by omega
      have j3' : (i3 : Int) < ((2 * n : Nat) : Int) := by omega
      have j3x : (i3 : Int) < 2 * (n : Int) := by omega
      have j4 : (0 : Int) ≤ (i2 : Int) := by omega
      have j5 : (0 : Int) ≤ (i3 : Int) := by omega
      rw [← hi3, ← hi2] at hl
      generalize hvl : lvF D i (mxV S s i) = lv at hl hlv HLE HH1
      generalize hvp : mxP S s i = pm at hl hmp HLE HH2
      have L1 := Lib.hid fun w hE => tread3 (D.Nm i) wLv ⟨#[32, 108, 101, 118, 101, 108]⟩ lv (by omega) (by omega) hsz (by decide) rfl w hE
      have L2 := Lib.hid fun w hE => tread3 (D.Nm i) wPd ⟨#[32, 112, 111, 110, 100, 101, 100]⟩ pm (by omega) (by omega) hsz (by decide) rfl w hE
      have v0 : (((D.Nm i).size : Nat) : Int) ≤ 8388608 := by omega
      have lm1 : ¬ 9223372036854775807 < (D.Nm i).size + 6 := by omega
      have lm2 : ¬ 9223372036854775807 < (D.Nm i).size + 7 := by omega
      obtain ⟨ba, oa, hA4, hba, ca⟩ := (HSa4.out.below (Nat.le_refl _) HW.out).at j2
      obtain ⟨ba', oa', hA4', _, ca'⟩ := (HSa4.out.below (Nat.le_refl _) HW.out).at j3
      rw [hA4] at hA4'
      injection hA4' with hA4'
      injection hA4' with e1 e2
      subst e1 e2 hA4
      rw [hl.1] at ca
      rw [hl.2] at ca'
      clear hi' hC htab hlt hmp hlv hl hvl hvp hi2 hi3 hsz
      generalize ln3 (D.Nm i) wLv lv = l1 at L1 ca
      generalize ln3 (D.Nm i) wPd pm = l2 at L2 ca'
      go_upto_region 12 with fail
      have hal : Below wr.heap.size wr (wr.alloc (Obj.cells #[.string (D.Nm i), .int .i64 (D.Kd i), .int .i64 (D.Ax i), .int .i64 (D.Ay i), .int .i64 (D.Iv i), .int .i64 (D.Gd i), .slice (D.SA i) (D.SN i) (D.SC i), .bool (D.Pt i), .int .i64 (D.Rs i)] 65)) := (Below.refl _ wr).alloc (Nat.le_refl _) _
      have HBG := Lib.hid (Blk.new wr 65 #[.string (D.Nm i), .int .i64 (D.Kd i), .int .i64 (D.Ax i), .int .i64 (D.Ay i), .int .i64 (D.Iv i), .int .i64 (D.Gd i), .slice (D.SA i) (D.SN i) (D.SC i), .bool (D.Pt i), .int .i64 (D.Rs i)])
      have HX0 := Lib.hid (below_step HW.out hal)
      have HXW := Lib.hid (below_step HWr.out hal)
      have HXB := Lib.hid (HBr.out.call hal)
      have a0 := (hal.cell (p := ⟨ba, oa + i2, none⟩) hba).trans ca
      have a1 := Lib.hid ((hal.cell (p := ⟨ba, oa + i3, none⟩) hba).trans ca')
      have HBA : Hid (ba < (wr.alloc (Obj.cells #[.string (D.Nm i), .int .i64 (D.Kd i), .int .i64 (D.Ax i), .int .i64 (D.Ay i), .int .i64 (D.Iv i), .int .i64 (D.Gd i), .slice (D.SA i) (D.SN i) (D.SC i), .bool (D.Pt i), .int .i64 (D.Rs i)] 65)).heap.size) := Nat.lt_of_lt_of_le hba hal.size
      have HTBx := Lib.hid (HTB.out.below (Nat.le_refl _) hal)
      clear hal d0 d1 c0 c1 c2 c3 c4 c5 c6 c7 c8 ca ca' hb hba HWr HBr HW HTB
      generalize wr.alloc (Obj.cells #[.string (D.Nm i), .int .i64 (D.Kd i), .int .i64 (D.Ax i), .int .i64 (D.Ay i), .int .i64 (D.Iv i), .int .i64 (D.Gd i), .slice (D.SA i) (D.SN i) (D.SC i), .bool (D.Pt i), .int .i64 (D.Rs i)] 65) = wx at *
      generalize wr.heap.size = G at *
      have HXW0 := HXW
      have HBG0 := HBG
      have HXB0 := HXB
      go_upto_region 17 with (first
        | (go_at_call 29
           with_reducible refine (L1.out _ ?_).mono ?_
           focus (exact HE.out.below HXW0.out)
           rintro e u1 ⟨rfl, hb1⟩
           have HX1 := Lib.hid (below_step HX0.out hb1)
           have HXW1 := Lib.hid (below_step HXW0.out hb1)
           have HBG1 := Lib.hid (HBG0.out.call hb1)
           have HXB1 := Lib.hid (HXB0.out.call hb1)
           have HTB1 := Lib.hid (HTBx.out.below (Nat.le_refl _) hb1)
           have a1' := (hb1.cell (p := ⟨ba, oa + i3, none⟩) HBA.out).trans a1.out
           clear hb1)
        | (go_at_call 29
           with_reducible refine (L2.out _ ?_).mono ?_
           focus (exact HE.out.below HXW1.out)
           rintro e u2 ⟨rfl, hb2⟩
           have HX2 := Lib.hid (below_step HX1.out hb2)
           have HXW2 := Lib.hid (below_step HXW1.out hb2)
           have HBG2 := Lib.hid (HBG1.out.call hb2)
           have HXB2 := Lib.hid (HXB1.out.call hb2)
           have HTB2 := Lib.hid (HTB1.out.below (Nat.le_refl _) hb2)
           obtain ⟨q0, q1, q2, q3, q4, q5, q6, q7, q8⟩ := blk9 HBG2.out
           clear hb2))
      clear q0 q1 q2 q3 q4 q5 q6 q7 q8 a0 a1 a1' HX0 HX1 HXW HXW0 HXW1 HBG HBG0 HBG1 HXB HXB0 HXB1 HTBx HTB1 HBA L1 L2 x2 x3 j2 j3 j2' j3' j2x j3x j4 j5
      go_wp2_with fail
      go_loopw [17, 18, 115] (fun hv wv u wr => ∃ (k : Nat) (hx wx : Bool), Hid (k ≤ s) ∧ u = .int .i64 k ∧ hv = .bool hx ∧ wv = .bool wx ∧ Hid (hx = hitB (fun k => lvF D i (S.V k i)) lv k) ∧ Hid (wx = hitB (fun k => S.P k i) pm k) ∧ Hid (Below u2.heap.size u2 wr)) (fun _ _ u _ => s - (RowKit.intOf u).toNat)
      case atStart => exact ⟨0, false, false, Nat.zero_le _, rfl, rfl, rfl, rfl, rfl, Below.refl _ _⟩
      case round => as_aux_lemma =>
        obtain ⟨k, hx, wx, Hk, rfl, rfl, rfl, HHX, HWX, HWk⟩ := hrel
        have HXk := Lib.hid (below_step HXW2.out HWk.out)
        have HBGk := Lib.hid (HBG2.out.call HWk.out)
        obtain ⟨q0, q1, q2, q3, q4, q5, q6, q7, q8⟩ := blk9 HBGk.out
        by_cases hlt : k < s
        · have T0 : decide ((k : Int) < (s : Int)) = true := by simp <;> omega
          have T0' : decide (k < s) = true := decide_eq_true hlt
          obtain ⟨k', hi'⟩ : ∃ z, z = k + 1 := ⟨_, rfl⟩
          have x0 : IntKind.i64.wrap ((k : Int) + 1) = (k' : Int) := by have := H20.out; rw [IntKind.wrap_i64]; omega
          have HI' : Hid (k' ≤ s) := by show k' ≤ s; omega
          have HMS : Hid (s - (RowKit.intOf (Value.int .i64 (k' : Int))).toNat < s - (RowKit.intOf (Value.int .i64 (k : Int))).toNat) := by show _ < _; simp [RowKit.intOf]; omega
          have k0 : (0 : Int) ≤ (k : Int) := by omega
          have k1 : (k : Int) < (s : Int) := by omega

          obtain ⟨bs, os, rfl, hbs, hC, hL⟩ := (HT.out.below (Nat.le_refl _) HXk.out).at hlt
          have hvp := HVL.out k hlt
          have hle := HLE.out k hlt
          obtain ⟨bv, ov, hA1, hbv, cv⟩ := hL.1.at hvp.2.1
          obtain ⟨bp, op, hA2, hbp, cp⟩ := hL.2.1.at hvp.2.2
          have c0 := hC 0 _ rfl
          have c1 := hC 1 _ rfl
          have c2 := hC 2 _ rfl
          have c3 := hC 3 _ rfl
          simp only [Nat.add_zero] at c0
          rw [hA1] at c0
          rw [hA2] at c1
          have m0 : (0 : Int) ≤ (i : Int) := by omega
          have m3 : (i : Int) < (S.VN k : Int) := by omega
          have m4 : (i : Int) < (S.PN k : Int) := by omega
          have m5 : i < S.VN k := hvp.2.1
          have m6 : i < S.PN k := hvp.2.2
          have SLk := Lib.hid fun w ht => SLV.out (S.V k i) w hvp.1 ht
          have t4 : decide (pm < S.P k i) = false := decide_eq_false (by omega)
          have HHX' : Hid ((hx || (lvF D i (S.V k i) == lv)) = hitB (fun k => lvF D i (S.V k i)) lv k') := by show _ = _; rw [hi', HHX.out]; rfl
          have HWX' : Hid ((wx || (S.P k i == pm)) = hitB (fun k => S.P k i) pm k') := by show _ = _; rw [hi', HWX.out]; rfl
          have hle1 := hle.1
          generalize lvF D i (S.V k i) = hk1 at SLk HHX' hle1
          have t3 : decide (lv < hk1) = false := decide_eq_false (by omega)
          clear hi' hC hL hvp hA1 hA2 hlt hle hle1 HHX HWX
          go_upto_region 20 with fail
          have hal : Below wr.heap.size wr (wr.alloc (Obj.cells #[.slice (some ⟨bv, ov, none⟩) (S.VN k) (S.VC k), .slice (some ⟨bp, op, none⟩) (S.PN k) (S.PC k), .slice (S.SA k) (S.SN k) (S.SC k), .slice (S.OA k) (S.ON k) (S.OC k)] 49)) := (Below.refl _ wr).alloc (Nat.le_refl _) _
          have HBS := Lib.hid (Blk.new wr 49 #[.slice (some ⟨bv, ov, none⟩) (S.VN k) (S.VC k), .slice (some ⟨bp, op, none⟩) (S.PN k) (S.PC k), .slice (S.SA k) (S.SN k) (S.SC k), .slice (S.OA k) (S.ON k) (S.OC k)])
          have HW5 := Lib.hid (below_step HWk.out hal)
          have HBG5 := Lib.hid (HBGk.out.call hal)
          have HTB5 := Lib.hid (HTB2.out.below (Nat.le_refl _) HW5.out)
          have cv4 := (hal.cell (p := ⟨bv, ov + i, none⟩) hbv).trans cv
          have cp4 := Lib.hid ((hal.cell (p := ⟨bp, op + i, none⟩) hbp).trans cp)
          have HBP : Hid (bp < (wr.alloc (Obj.cells #[.slice (some ⟨bv, ov, none⟩) (S.VN k) (S.VC k), .slice (some ⟨bp, op, none⟩) (S.PN k) (S.PC k), .slice (S.SA k) (S.SN k) (S.SC k), .slice (S.OA k) (S.ON k) (S.OC k)] 49)).heap.size) := Nat.lt_of_lt_of_le hbp hal.size
          clear hal c0 c1 c2 c3 cv cp hbv hbp hbs q0 q1 q2 q3 q4 q5 q6 q7 q8 HBGk HXk HWk
          generalize wr.alloc (Obj.cells #[.slice (some ⟨bv, ov, none⟩) (S.VN k) (S.VC k), .slice (some ⟨bp, op, none⟩) (S.PN k) (S.PC k), .slice (S.SA k) (S.SN k) (S.SC k), .slice (S.OA k) (S.ON k) (S.OC k)] 49) = w5 at *
          generalize wr.heap.size = GS at *
          obtain ⟨s0, s1, s2, s3⟩ := blk4 HBS.out
          obtain ⟨q0, q1, q2, q3, q4, q5, q6, q7, q8⟩ := blk9 HBG5.out
          go_region_with (first
            | (go_at_call 30
               with_reducible refine (SLk.out _ ?_).mono ?_
               focus (exact HTB5.out.below (Nat.le_refl _) ((Below.refl _ w5).drew))
               rintro e w6 ⟨rfl, hb6⟩
               have hq6 : Below w5.heap.size w5 w6 := ((Below.refl _ w5).drew).trans hb6
               have HBS6 := Lib.hid (HBS.out.call hq6)
               have HW6 := Lib.hid (below_step HW5.out hq6)
               have cp6 := (hq6.cell (p := ⟨bp, op + i, none⟩) HBP.out).trans cp4.out
               clear hb6 hq6))
          all_goals (clear s0 s1 s2 s3 q0 q1 q2 q3 q4 q5 q6 q7 q8 cv4 cp4; obtain ⟨s0, s1, s2, s3⟩ := blk4 HBS6.out; cases hx <;> cases wx <;> (go_wp2_with fail; go_region; all_goals (go_wp2_with fail; go_roundw; (case rel => exact ⟨k', _, _, HI', rfl, rfl, rfl, by simpa using HHX', by simpa using HWX', by first | exact below_drewN HW6.out _ | exact HW6.out.drew | exact HW6.out⟩); (case measure => exact HMS.out))))
        · have T0 : decide ((k : Int) < (s : Int)) = false := by simp <;> omega
          have T0' : decide (k < s) = false := decide_eq_false hlt
          have hin : k = s := by have := Hk.out; omega

          subst hin
          clear hlt
          obtain rfl : hx = true := HHX.out.trans HH1.out
          obtain rfl : wx = true := HWX.out.trans HH2.out
          have HW7 := Lib.hid (below_step HX2.out HWk.out)
          clear HHX HWX
          go_wp2_with fail
          go_roundw
          case rel => exact ⟨i', HI', rfl, HW7⟩
          case measure => exact HMS.out
    · have T0 : decide ((i : Int) < (n : Int)) = false := by simp <;> omega
      have T0' : decide (i < n) = false := decide_eq_false hlt
      have hin : i = n := by have := Hi.out; omega

      have HIN := Lib.hid hin
      have HW4 := Lib.hid HWr.out
      clear hin hlt
      by_cases g2 : 1 ≤ sec ∧ sec ≤ 86400
      case neg =>
        have S5 := Lib.hid (H5N.out g2)
        clear g2
        go_wp2_with (first
          | (go_at_call 26
             with_reducible refine (S5.out _ ?_ ?_ ?_ ?_).mono ?_
             focus (exact HE.out.below HWr.out)
             focus (exact HD.out.below (Nat.le_refl _) HWr.out)
             focus (exact HK.out.below (Nat.le_refl _) HWr.out)
             focus (exact HT.out.below (Nat.le_refl _) HWr.out)
             rintro e w5 ⟨R5, er5, A5, N5, c5, hr5, rfl, hN5, hc5, hs5, hb5⟩
             have H5 := Lib.hid (below_step HWr.out hb5)
             have HB5 := Lib.hid (HBr.out.call hb5)
             obtain ⟨d0, d1⟩ := blk2 HB5.out
             have hz5 : N5 = 0 := by rw [hN5, hr5.1]; rfl
             clear hN5 hc5 hs5
             obtain ⟨rfl, rfl⟩ := hr5
             subst hz5
             clear hb5))
        go_ret
        exact ⟨rfl, H5.out⟩
      have S5 := Lib.hid (H5Y.out g2)
      have HSC := Lib.hid g2
      clear g2
      go_wp2_with (first
        | (go_at_call 26
           with_reducible refine (S5.out _ ?_ ?_ ?_ ?_).mono ?_
           focus (exact HE.out.below HWr.out)
           focus (exact HD.out.below (Nat.le_refl _) HWr.out)
           focus (exact HK.out.below (Nat.le_refl _) HWr.out)
           focus (exact HT.out.below (Nat.le_refl _) HWr.out)
           rintro e w5 ⟨R5, er5, A5, N5, c5, hr5, rfl, hN5, hc5, hs5, hb5⟩
           have H5 := Lib.hid (below_step HWr.out hb5)
           have HB5 := Lib.hid (HBr.out.call hb5)
           obtain ⟨d0, d1⟩ := blk2 HB5.out
           obtain ⟨rfl, rfl⟩ := hr5
           have HN5 := Lib.hid hN5
           have HC5 := Lib.hid hc5
           have HSb5 := Lib.hid hs5
           clear hN5 hc5 hs5
           clear hb5))
      obtain ⟨wq, rfl⟩ : ∃ wq : World, wq = wr := ⟨_, rfl⟩
      clear HW4 HIN Hi
      go_loopw [23, 187] (fun bv v wr => ∃ (i : Nat) (A6 : Option Addr) (N6 c6 : Nat), Hid (i ≤ n) ∧ v = .int .i64 i ∧ bv = .slice A6 N6 c6 ∧ Hid (N6 ≤ c6) ∧ Hid (N6 + (oout D S s sec i).length = (oout D S s sec n).length) ∧ Hid (StrIn wr A6 N6 (fun k => (oout D S s sec n).getD ((oout D S s sec i).length + k) ByteArray.empty)) ∧ Hid (Below w5.heap.size w5 wr)) (fun _ v _ => n - (RowKit.intOf v).toNat)
      case atStart => exact ⟨0, A5, N5, c5, Nat.zero_le _, rfl, rfl, HC5.out, by show N5 + 0 = _; rw [HN5.out]; rfl, by show StrIn _ _ _ (fun k => (oout D S s sec n).getD ((oout D S s sec 0).length + k) ByteArray.empty); have e : (fun k => (oout D S s sec n).getD ((oout D S s sec 0).length + k) ByteArray.empty) = fun k => (oout D S s sec n).getD k ByteArray.empty := (by funext k; rw [show (oout D S s sec 0).length = 0 from rfl, Nat.zero_add]); rw [e]; exact HSb5.out, Below.refl _ _⟩
      case round => as_aux_lemma =>
        obtain ⟨i, A6, N6, c6, Hi, rfl, rfl, HC6, HN6, HS6, HW⟩ := hrel
        have HWr : Hid (Below w.heap.size w wr) := below_step H5.out HW.out
        have HBr := Lib.hid (HB5.out.call HW.out)
        obtain ⟨d0, d1⟩ := blk2 HBr.out
        by_cases hlt : i < n
        · have T0 : decide ((i : Int) < (n : Int)) = true := by simp <;> omega
          have T0' : decide (i < n) = true := decide_eq_true hlt
          obtain ⟨i', hi'⟩ : ∃ z, z = i + 1 := ⟨_, rfl⟩
          have x0 : IntKind.i64.wrap ((i : Int) + 1) = (i' : Int) := by have := H14.out; rw [IntKind.wrap_i64]; omega
          have HI' : Hid (i' ≤ n) := by show i' ≤ n; omega
          have HMS : Hid (n - (RowKit.intOf (Value.int .i64 (i' : Int))).toNat < n - (RowKit.intOf (Value.int .i64 (i : Int))).toNat) := by show _ < _; simp [RowKit.intOf]; omega
          have k0 : (0 : Int) ≤ (i : Int) := by omega
          have k1 : (i : Int) < (n : Int) := by omega

          obtain ⟨b, off, rfl, hb, hC, htab⟩ := (HD.out.below (Nat.le_refl _) HWr.out).at hlt
          have c0 := hC 0 _ rfl
          have c1 := hC 1 _ rfl
          have c2 := hC 2 _ rfl
          have c3 := hC 3 _ rfl
          have c4 := hC 4 _ rfl
          have c5 := hC 5 _ rfl
          have c6 := hC 6 _ rfl
          have c7 := hC 7 _ rfl
          have c8 := hC 8 _ rfl
          simp only [Nat.add_zero] at c0
          have hsz := HNM.out i hlt
          have HLT := Lib.hid hlt
          have HTB := Lib.hid htab
          have HND := Lib.hid (HG.out.node hlt)
          have hpb : ∀ k, k < s → 0 ≤ S.P k i ∧ S.P k i ≤ 1125899906842624 := fun k hk => (HG.out.vol hk hlt).2.1
          have hpo : ∀ k, k < s → i < S.PN k ∧ S.PN k ≤ 2000 ∧ 0 ≤ S.P k i ∧ S.P k i ≤ 1125899906842624 := fun k hk => ⟨(HG.out.vol hk hlt).2.2.2, (HSS.out k hk).2.1, hpb k hk⟩
          have SO : Hid (∀ w, StIn w A s S → Calls Tryz.prog 31 #[.slice A s c, .int .i64 (i : Int)] w (OfPost w (oev S s i))) := fun w ht => tOf A s c S i H20.out hpo w ht
          have HO : Hid (OGood s (oev S s i)) := oev_good H20.out hpb
          have htt := tot_small (v := fun k => S.P k i) H20.out hpb
          have HL0 : Hid (oev S s i = [] → (oout D S s sec (i + 1)).length = (oout D S s sec i).length) := oout_same
          have HL1 := Lib.hid fun h => oout_at (D := D) (S := S) (s := s) (sec := sec) HLT.out h
          rw [← hi'] at HL0 HL1
          have htt : psum (evsOf (oev S s i)).Tot (oev S s i).length ≤ 22517998136852480 := htt
          generalize oev S s i = ev at SO HO HL0 HL1 htt
          obtain ⟨q, hq⟩ : ∃ q, q = ev.length := ⟨_, rfl⟩
          have HQL := Lib.hid hq
          have SCT : Hid (∀ A c w, EvIn w A q (evsOf ev) → Calls Tryz.prog 32 #[.slice A q c] w (CntPost w q (evsOf ev))) := fun A c w ht => by subst hq; exact tCount A _ c _ HO.out.cnt w ht
          clear hC htab hlt hpb hpo hi'
          go_upto_region 36 with fail
          have hal : Below wr.heap.size wr (wr.alloc (Obj.cells #[.string (D.Nm i), .int .i64 (D.Kd i), .int .i64 (D.Ax i), .int .i64 (D.Ay i), .int .i64 (D.Iv i), .int .i64 (D.Gd i), .slice (D.SA i) (D.SN i) (D.SC i), .bool (D.Pt i), .int .i64 (D.Rs i)] 65)) := (Below.refl _ wr).alloc (Nat.le_refl _) _
          have HBG := Lib.hid (Blk.new wr 65 #[.string (D.Nm i), .int .i64 (D.Kd i), .int .i64 (D.Ax i), .int .i64 (D.Ay i), .int .i64 (D.Iv i), .int .i64 (D.Gd i), .slice (D.SA i) (D.SN i) (D.SC i), .bool (D.Pt i), .int .i64 (D.Rs i)])
          have HX0 := Lib.hid (below_step HW.out hal)
          have HXW := Lib.hid (below_step HWr.out hal)
          have HXB := Lib.hid (HBr.out.call hal)
          have HS6x := Lib.hid (HS6.out.below (Nat.le_refl _) hal)
          clear hal d0 d1 c0 c1 c2 c3 c4 c5 c6 c7 c8 hb HWr HBr HTB
          generalize wr.alloc (Obj.cells #[.string (D.Nm i), .int .i64 (D.Kd i), .int .i64 (D.Ax i), .int .i64 (D.Ay i), .int .i64 (D.Iv i), .int .i64 (D.Gd i), .slice (D.SA i) (D.SN i) (D.SC i), .bool (D.Pt i), .int .i64 (D.Rs i)] 65) = wx at *
          generalize wr.heap.size = G at *
          by_cases hev : ev = []
          case pos =>
            have hq0 : q = 0 := by rw [HQL.out, hev]; rfl
            have HN6' : Hid (N6 + (oout D S s sec i').length = (oout D S s sec n).length) := by show _ = _; rw [HL0.out hev]; exact HN6.out
            have HEQ : Hid ((oout D S s sec i').length = (oout D S s sec i).length) := HL0.out hev
            clear hev HL0 HL1 HO hq htt
            subst hq0
            go_wp2_with (first
              | (go_at_call 31
                 with_reducible refine (SO.out _ ?_).mono ?_
                 focus (exact HT.out.below (Nat.le_refl _) HXW.out)
                 rintro e u5 ⟨A3, N3, cap3, rfl, hN3, hc3, hE3, hb5⟩
                 obtain rfl : N3 = 0 := hN3.trans HQL.out.symm
                 have HE3 := Lib.hid hE3
                 have HX5 := Lib.hid (below_step HX0.out hb5)
                 have HS65 := Lib.hid (HS6x.out.below (Nat.le_refl _) hb5)
                 clear hN3 hc3 hE3 hb5)
              | (go_at_call 32
                 with_reducible refine (SCT.out _ _ _ ?_).mono ?_
                 focus (exact HE3.out)
                 rintro e u6 ⟨⟨g, rfl⟩, hb6⟩
                 have HX6 := Lib.hid (below_step HX5.out hb6)
                 have HS66 := Lib.hid (HS65.out.below (Nat.le_refl _) hb6)
                 clear hb6))
            go_roundw
            case rel => exact ⟨i', A6, N6, c6, HI', rfl, rfl, HC6, HN6', by rw [HEQ.out]; exact HS66, HX6⟩
            case measure => exact HMS.out
          obtain ⟨hl1, hl2, hr0, hr1, hr2⟩ := HL1.out hev
          have hog := HO.out
          have hqp : 1 ≤ q := by have := List.length_pos_iff.2 hev; omega
          have hq20 : q ≤ 20 := by have := hog.cnt.n20; omega
          obtain ⟨N7, hN7⟩ : ∃ z, N6 = z + 3 := ⟨N6 - 3, by have := HN6.out; omega⟩
          subst hN7
          have HN7 : Hid (N7 + (oout D S s sec i').length = (oout D S s sec n).length) := by show _ = _; have := HN6.out; omega
          have hsc := HSC.out
          have hlb := sec_bd ⟨hog.lon1 hev, hog.lon.2.1⟩ H20.out HSC.out
          obtain ⟨ss, hss⟩ : ∃ z, z = sec * (s : Int) := ⟨_, rfl⟩
          have x8 : IntKind.i64.wrap (sec * (s : Int)) = ss := by rw [← hss, IntKind.wrap_i64]; omega
          rw [← hq] at hr0 hr1
          have htn := hog.tot.1
          rw [← hq] at htn htt
          obtain ⟨tt, httd⟩ : ∃ z, z = psum (evsOf ev).Tot q := ⟨_, rfl⟩
          rw [← httd] at hr1 htn htt
          have HTT := Lib.hid httd
          clear httd
          generalize lonS ev * sec = ls at *
          have t5 : ((q : Int) == 0) = false := by simp; omega
          have t5' : (q == 0) = false := by simp; omega
          have t6 : decide ((N7 + 3 : Nat) < (3 : Int)) = false := decide_eq_false (by omega)
          have t6' : decide (N7 + 3 < 3) = false := decide_eq_false (by omega)
          have t7 : decide (ls < sec) = false := decide_eq_false (by omega)
          have t8 : decide (ss < ls) = false := decide_eq_false (by omega)
          have n0 : (0 : Int) < ((N7 + 3 : Nat) : Int) := by omega
          have n1 : (1 : Int) < ((N7 + 3 : Nat) : Int) := by omega
          have n2 : (2 : Int) < ((N7 + 3 : Nat) : Int) := by omega
          have n0' : 0 < N7 + 3 := by omega
          have n1' : 1 < N7 + 3 := by omega
          have n2' : 2 < N7 + 3 := by omega
          have L1 := Lib.hid fun w hE => tread3 (D.Nm i) wEvs ⟨#[32, 101, 118, 101, 110, 116, 115]⟩ (q : Int) (by omega) (by omega) hsz (by decide) rfl w hE
          have L2 := Lib.hid fun w hE => tread3 (D.Nm i) wVol ⟨#[32, 118, 111, 108, 117, 109, 101]⟩ tt (by omega) (by omega) hsz (by decide) rfl w hE
          have L3 := Lib.hid fun w hE => tread3 (D.Nm i) wLon ⟨#[32, 108, 111, 110, 103, 101, 115, 116]⟩ ls (by omega) (by omega) hsz (by decide) rfl w hE
          have v0 : (((D.Nm i).size : Nat) : Int) ≤ 8388608 := by omega
          have lm1 : ¬ 9223372036854775807 < (D.Nm i).size + 7 := by omega
          have lm2 : ¬ 9223372036854775807 < (D.Nm i).size + 8 := by omega
          obtain ⟨ba, oa, hA6, hba, ca0⟩ := HS6x.out.at (k := 0) (by omega)
          subst hA6
          have ca1 : wx.cell? ⟨ba, oa + 1, none⟩ = some (.string ((oout D S s sec n).getD ((oout D S s sec i).length + 1) ByteArray.empty)) := by
            obtain ⟨ba', oa', hA, _, h⟩ := HS6x.out.at (k := 1) (by omega)
            injection hA with hA; injection hA with e1 e2; subst e1 e2; exact h
          have ca2 : wx.cell? ⟨ba, oa + 2, none⟩ = some (.string ((oout D S s sec n).getD ((oout D S s sec i).length + 2) ByteArray.empty)) := by
            obtain ⟨ba', oa', hA, _, h⟩ := HS6x.out.at (k := 2) (by omega)
            injection hA with hA; injection hA with e1 e2; subst e1 e2; exact h
          simp only [hr0, hr1, hr2] at ca0 ca1 ca2
          simp only [Nat.add_zero] at ca0
          have HA1 := Lib.hid ca1
          have HA2 := Lib.hid ca2
          have HBA := Lib.hid hba
          have HTL : Hid (∀ w', StrIn w' (some ⟨ba, oa, none⟩) (N7 + 3) (fun k => (oout D S s sec n).getD ((oout D S s sec i).length + k) ByteArray.empty) → StrIn w' (some ⟨ba, oa + 3, none⟩) N7 (fun k => (oout D S s sec n).getD ((oout D S s sec i').length + k) ByteArray.empty)) := fun w' h => by
            have a := str_tail h
            rw [← hl1]
            simpa only [Nat.add_assoc] using a
          have hcc := HC6.out
          have n3 : ¬ ((c6 : Int) < 3) := by omega
          clear hev hl1 hl2 hr0 hr1 hr2 hog hqp hq20 hlb hss htn htt HL0 HL1 HO hq ca1 ca2 hsz hsc
          generalize ln3 (D.Nm i) wEvs (q : Int) = l1 at L1 ca0
          generalize ln3 (D.Nm i) wVol tt = l2 at L2 HA1
          generalize ln3 (D.Nm i) wLon ls = l3 at L3 HA2
          go_upto_region 48 with (first
            | (go_at_call 31
               with_reducible refine (SO.out _ ?_).mono ?_
               focus (exact HT.out.below (Nat.le_refl _) HXW.out)
               rintro e u5 ⟨A3, N3, cap3, rfl, hN3, hc3, hE3, hb5⟩
               obtain rfl : q = N3 := HQL.out.trans hN3.symm
               have HE3 := Lib.hid hE3
               have HK5 := Lib.hid hb5
               clear hN3 hc3 hE3 hb5)
            | (go_at_call 32
               with_reducible refine (SCT.out _ _ _ ?_).mono ?_
               focus (exact HE3.out)
               rintro e u6 ⟨⟨g, rfl⟩, hb6⟩
               rw [← HTT.out]
               have HK6 := Lib.hid (below_step HK5.out hb6)
               have ca0' := (HK6.out.cell (p := ⟨ba, oa, none⟩) HBA.out).trans ca0
               clear hb6)
            | (go_at_call 29
               with_reducible refine (L1.out _ ?_).mono ?_
               focus (exact HE.out.below (below_step HXW.out HK6.out))
               rintro e u7 ⟨rfl, hb7⟩
               have HK7 := Lib.hid (below_step HK6.out hb7)
               have ca1' := (HK7.out.cell (p := ⟨ba, oa + 1, none⟩) HBA.out).trans HA1.out
               clear hb7)
            | (go_at_call 29
               with_reducible refine (L2.out _ ?_).mono ?_
               focus (exact HE.out.below (below_step HXW.out HK7.out))
               rintro e u8 ⟨rfl, hb8⟩
               have HK8 := Lib.hid (below_step HK7.out hb8)
               have ca2' := (HK8.out.cell (p := ⟨ba, oa + 2, none⟩) HBA.out).trans HA2.out
               clear hb8)
            | (go_at_call 29
               with_reducible refine (L3.out _ ?_).mono ?_
               focus (exact HE.out.below (below_step HXW.out HK8.out))
               rintro e u9 ⟨rfl, hb9⟩
               have HK9 := Lib.hid (below_step HK8.out hb9)
               have HS69 := Lib.hid (HS6x.out.below (Nat.le_refl _) HK9.out)
               have HX9 := Lib.hid (below_step HX0.out HK9.out)
               obtain ⟨q0, q1, q2, q3, q4, q5, q6, q7, q8⟩ := blk9 (HBG.out.call HK9.out)
               clear hb9))
          clear q0 q1 q2 q3 q4 q5 q6 q7 q8 ca0 ca0' ca1' ca2' L1 L2 L3 SO SCT
          by_cases hc3 : c6 = 3
          · subst hc3
            obtain rfl : N7 = 0 := by omega
            go_wp2_with fail
            go_roundw
            case rel => exact ⟨i', _, 0, 0, HI', rfl, rfl, Nat.le_refl _, HN7, str_none, HX9⟩
            case measure => exact HMS.out
          · obtain ⟨c7, hc7⟩ : ∃ z, c6 = z + 3 := ⟨c6 - 3, by omega⟩
            subst hc7
            have HC7 : Hid (N7 ≤ c7) := by show N7 ≤ c7; omega
            have HT9 := Lib.hid (HTL.out _ HS69.out)
            clear hcc
            go_wp2_with fail
            go_roundw
            case rel => exact ⟨i', _, N7, c7, HI', rfl, rfl, HC7, HN7, HT9, HX9⟩
            case measure => exact HMS.out
        · have T0 : decide ((i : Int) < (n : Int)) = false := by simp <;> omega
          have T0' : decide (i < n) = false := decide_eq_false hlt
          have hin : i = n := by have := Hi.out; omega

          have HNE : Hid (N6 = 0) := by show N6 = 0; have := HN6.out; rw [hin] at this; omega
          obtain rfl : N6 = 0 := HNE.out
          clear hin hlt
          go_wp2_with fail
          go_ret
          exact ⟨rfl, HWr.out⟩
end Go.Proofs.YtfgakaielfekoaaGreatDoor

/- The walk of the law ReportsSame. -/
import Derived.Test.YtfgakaielfekoaaGreatDoorMgB
import Derived.Test.YtfgakaielfekoaaGreatDoorLgh
import Derived.Test.YtfgakaielfekoaaGreatDoorTno
import Derived.Test.YtfgakaielfekoaaGreatDoorSmz
import Derived.Test.YtfgakaielfekoaaGreatDoorSmc
import Derived.Test.YtfgakaielfekoaaGreatDoorNetW
namespace Go.Proofs.YtfgakaielfekoaaGreatDoor
open Go.RowKit
set_option linter.unusedVariables false
set_option linter.unusedSimpArgs false

theorem nodes_uniq {D : Nds} {n : Nat} {K : Lks} {m : Nat} {S : Sts} {s : Nat} {R1 R2 : List ByteArray} {e1 e2 : Int} (h1 : NodesIs D n K m S s R1 e1) (h2 : NodesIs D n K m S s R2 e2) : R1 = R2 ∧ e1 = e2 := by
  rcases h1 with ⟨a, b, c⟩ | ⟨a, a2, b, c⟩ | ⟨a, a2, b, c⟩ <;> rcases h2 with ⟨a', b', c'⟩ | ⟨a', a2', b', c'⟩ | ⟨a', a2', b', c'⟩ <;> first
    | exact absurd a' a
    | exact absurd a a'
    | exact ⟨b.trans b'.symm, c.trans c'.symm⟩
    | omega
/-- What Clone leaves, and what Reverse makes of it. -/
def ClPost (w0 : World) (s : Nat) (S : Sts) (e : Ending) (w' : World) : Prop := ∃ (A' : Option Addr) (c' : Nat), e = .returned (.slice A' s c') ∧ (∀ w1 : World, Below w'.heap.size w' w1 → Calls Tryz.prog 20 #[.slice A' s c'] w1 fun e w2 => e = .returned (.tuple #[]) ∧ StIn w2 A' s (S.re fun k => s - 1 - k) ∧ Below w0.heap.size w0 w2) ∧ Below w0.heap.size w0 w'
theorem sclone_any (A : Option Addr) (s c : Nat) (S : Sts) (h2 : s ≤ 2000) (w : World) (hT : StIn w A s S) : Calls Tryz.prog 19 #[.slice A s c] w (ClPost w s S) := by
  rcases hT.2 with h0 | ⟨b, off, rfl, ht⟩
  · subst h0
    refine (sclone0 A c w).mono ?_
    rintro e w' ⟨A', c', rfl, hb⟩
    refine ⟨A', c', rfl, fun w1 h1 => ?_, hb⟩
    refine (srev0 A' c' w1).mono ?_
    rintro e w2 ⟨rfl, hb2⟩
    exact ⟨rfl, ⟨by omega, .inl rfl⟩, below_step (below_step hb h1) hb2⟩
  · rcases Nat.eq_zero_or_pos s with h0 | h0
    · subst h0
      refine (sclone0 _ c w).mono ?_
      rintro e w' ⟨A', c', rfl, hb⟩
      refine ⟨A', c', rfl, fun w1 h1 => ?_, hb⟩
      refine (srev0 A' c' w1).mono ?_
      rintro e w2 ⟨rfl, hb2⟩
      exact ⟨rfl, ⟨by omega, .inl rfl⟩, below_step (below_step hb h1) hb2⟩
    · refine (sclone b off s c S h0 h2 w ht).mono ?_
      rintro e w' ⟨g, cap, rfl, hown, hb⟩
      refine ⟨some ⟨g, 0, none⟩, cap, rfl, fun w1 h1 => ?_, hb⟩
      refine (srev g s cap S w w1 h0 h2 (own_below hown h1) (below_step hb h1)).mono ?_
      rintro e w2 ⟨rfl, hown2, hb2⟩
      refine ⟨rfl, own_states hown2 h2 fun k hk => ?_, hb2⟩
      exact (ht.2 (s - 1 - k) (by omega)).2.below (Nat.le_refl _) hb2
/-- What Concat of the states twice leaves. -/
def CcPost (w : World) (s : Nat) (S : Sts) (e : Ending) (w' : World) : Prop := ∃ (A' : Option Addr) (N c' : Nat), N = s + s ∧ e = .returned (.slice A' N c') ∧ StIn w' A' N (S.re fun k => if k < s then k else k - s) ∧ Below w.heap.size w w'
theorem sconcat_any (g : Nat) (A : Option Addr) (s c : Nat) (S : Sts) (h2 : s ≤ 1000) (w : World) (hT : StIn w A s S) (hg : g < w.heap.size) (c0 : w.cell? ⟨g, 0, none⟩ = some (.slice A s c)) (c1 : w.cell? ⟨g, 1, none⟩ = some (.slice A s c)) :
    Calls Tryz.prog 21 #[.slice (some ⟨g, 0, none⟩) 2 2] w (CcPost w s S) := by
  rcases Nat.eq_zero_or_pos s with h0 | h0
  · subst h0
    refine (sconcat0 g A c w hg c0 c1).mono ?_
    rintro e w' ⟨rfl, hb⟩
    exact ⟨none, 0, 0, rfl, rfl, ⟨by omega, .inl rfl⟩, hb⟩
  · rcases hT.2 with h | ⟨b, off, rfl, ht⟩
    · omega
    · refine (sconcat g b off s c S h0 h2 w ht hg c0 c1).mono ?_
      rintro e w' ⟨h, cap, N, hN, rfl, hown, hb⟩
      refine ⟨some ⟨h, 0, none⟩, N, cap, hN, rfl, own_states hown (by omega) fun k hk => ?_, hb⟩
      exact (ht.2 (if k < s then k else k - s) (by split <;> omega)).2.below (Nat.le_refl _) hb
set_option maxRecDepth 100000 in
set_option maxHeartbeats 16000000 in
theorem same_walk (NA LA : Option Addr) (n nc m lc : Nat) (D : Nds) (K : Lks) (A : Option Addr) (s c : Nat) (S : Sts) (w : World) (hE : Env5 w) (hD : NdIn w NA n D) (hK : LkIn w LA m K) (hT : StIn w A s S) :
    Calls Tryz.prog 4 #[.agg #[.slice NA n nc, .slice LA m lc], .slice A s c] w fun e w' => e = .returned (.bool true) ∧ Below w.heap.size w w' := by
  have HE := Lib.hid hE
  have HD := Lib.hid hD
  have HK := Lib.hid hK
  have HT := Lib.hid hT
  have H0 : Hid (Below w.heap.size w (w.alloc (Obj.cells #[.slice NA n nc, .slice LA m lc] 25))) := (Below.refl _ w).alloc (Nat.le_refl _) _
  have HB0 := Lib.hid (Blk.new w 25 #[.slice NA n nc, .slice LA m lc])
  have SA := Lib.hid fun w hE => caw5 w hE
  have sg := fun w hD hK => tlarge NA LA n nc m lc D K w hD hK
  by_cases h1 : lgP D n K m
  case pos =>
    rw [boolOf_true h1] at sg
    have SG := Lib.hid sg
    clear sg h1 hE hD hK hT
    go_enter Tryz.func4, Tryz.ntmps4
    go_wp2_with (first
      | (go_at_call 8
         with_reducible refine (SA.out _ ?_).mono ?_
         focus (exact HE.out.below H0.out)
         rintro e w1 ⟨rfl, hb1⟩
         have H1 := Lib.hid (below_step H0.out hb1)
         have HB1 := Lib.hid (HB0.out.call hb1)
         obtain ⟨d0, d1⟩ := blk2 HB1.out
         clear hb1)
      | (go_at_call 9
         with_reducible refine (SG.out _ ?_ ?_).mono ?_
         focus (exact HD.out.below (Nat.le_refl _) H1.out)
         focus (exact HK.out.below (Nat.le_refl _) H1.out)
         rintro e w2 ⟨rfl, hb2⟩
         have H2 := Lib.hid (below_step H1.out hb2)
         have HB2 := Lib.hid (HB1.out.call hb2)
         obtain ⟨d0, d1⟩ := blk2 HB2.out
         clear hb2))
    go_ret
    exact ⟨rfl, H2.out⟩
  rw [boolOf_false h1] at sg
  have SG := Lib.hid sg
  have sh := fun w hT => theavy A s c S w hT
  by_cases h2 : hvP S s
  case pos =>
    rw [boolOf_true h2] at sh
    have SH := Lib.hid sh
    clear sg sh h1 h2 hE hD hK hT
    go_enter Tryz.func4, Tryz.ntmps4
    go_wp2_with (first
      | (go_at_call 8
         with_reducible refine (SA.out _ ?_).mono ?_
         focus (exact HE.out.below H0.out)
         rintro e w1 ⟨rfl, hb1⟩
         have H1 := Lib.hid (below_step H0.out hb1)
         have HB1 := Lib.hid (HB0.out.call hb1)
         obtain ⟨d0, d1⟩ := blk2 HB1.out
         clear hb1)
      | (go_at_call 9
         with_reducible refine (SG.out _ ?_ ?_).mono ?_
         focus (exact HD.out.below (Nat.le_refl _) H1.out)
         focus (exact HK.out.below (Nat.le_refl _) H1.out)
         rintro e w2 ⟨rfl, hb2⟩
         have H2 := Lib.hid (below_step H1.out hb2)
         have HB2 := Lib.hid (HB1.out.call hb2)
         obtain ⟨d0, d1⟩ := blk2 HB2.out
         clear hb2)
      | (go_at_call 17
         with_reducible refine (SH.out _ ?_).mono ?_
         focus (exact HT.out.below (Nat.le_refl _) H2.out)
         rintro e w3 ⟨rfl, hb3⟩
         have H3 := Lib.hid (below_step H2.out hb3)
         have HB3 := Lib.hid (HB2.out.call hb3)
         obtain ⟨d0, d1⟩ := blk2 HB3.out
         clear hb3))
    go_ret
    exact ⟨rfl, H3.out⟩
  rw [boolOf_false h2] at sh
  have SH := Lib.hid sh
  by_cases h3 : 10 < s
  case pos =>
    have t1 : decide ((10 : Int) < (s : Int)) = true := decide_eq_true (by omega)
    have t1' : decide (10 < s) = true := decide_eq_true h3
    clear sg sh h1 h2 h3 hE hD hK hT
    go_enter Tryz.func4, Tryz.ntmps4
    go_wp2_with (first
      | (go_at_call 8
         with_reducible refine (SA.out _ ?_).mono ?_
         focus (exact HE.out.below H0.out)
         rintro e w1 ⟨rfl, hb1⟩
         have H1 := Lib.hid (below_step H0.out hb1)
         have HB1 := Lib.hid (HB0.out.call hb1)
         obtain ⟨d0, d1⟩ := blk2 HB1.out
         clear hb1)
      | (go_at_call 9
         with_reducible refine (SG.out _ ?_ ?_).mono ?_
         focus (exact HD.out.below (Nat.le_refl _) H1.out)
         focus (exact HK.out.below (Nat.le_refl _) H1.out)
         rintro e w2 ⟨rfl, hb2⟩
         have H2 := Lib.hid (below_step H1.out hb2)
         have HB2 := Lib.hid (HB1.out.call hb2)
         obtain ⟨d0, d1⟩ := blk2 HB2.out
         clear hb2)
      | (go_at_call 17
         with_reducible refine (SH.out _ ?_).mono ?_
         focus (exact HT.out.below (Nat.le_refl _) H2.out)
         rintro e w3 ⟨rfl, hb3⟩
         have H3 := Lib.hid (below_step H2.out hb3)
         have HB3 := Lib.hid (HB2.out.call hb3)
         obtain ⟨d0, d1⟩ := blk2 HB3.out
         clear hb3))
    go_ret
    exact ⟨rfl, H3.out⟩
  have t1 : decide ((10 : Int) < (s : Int)) = false := decide_eq_false (by omega)
  have t1' : decide (10 < s) = false := decide_eq_false h3
  obtain ⟨h14, h16, hnd, hlk⟩ := lg_not h1
  obtain ⟨h20, hst⟩ := hv_not h2
  have hz := lg_sz h1
  have hnm : ∀ i, i < n → (D.Nm i).size ≤ 60 := fun i hi => (hnd i hi).2
  have hs : ∀ k, k < s → S.VN k ≤ 2000 ∧ S.PN k ≤ 2000 ∧ S.SN k ≤ 2000 ∧ S.ON k ≤ 2000 := fun k hk => by have := hst k hk; omega
  have s4 := fun w hE hD hK ht => tNodes NA LA n nc m lc D K hz A s c S h20 h14 hnm hs w hE hD hK ht
  have S4 := Lib.hid s4
  have SC := Lib.hid fun w ht => sclone_any A s c S (by omega) w ht
  have SK := Lib.hid fun w g ht hg c0 c1 => sconcat_any g A s c S (by omega) w ht hg c0 c1
  have S7 := Lib.hid fun w A' c' hE hD hK ht => tNodes NA LA n nc m lc D K hz A' s c' (S.re fun k => s - 1 - k) h20 h14 hnm (fun k hk => hs (s - 1 - k) (by omega)) w hE hD hK ht
  have S9 : Hid (∀ (w : World) (A' : Option Addr) (N c' : Nat), N = s + s → Env5 w → NdIn w NA n D → LkIn w LA m K → StIn w A' N (S.re fun k => if k < s then k else k - s) → Calls Tryz.prog 18 #[.agg #[.slice NA n nc, .slice LA m lc], .slice A' N c'] w (LinPost w (NodesIs D n K m (S.re fun k => if k < s then k else k - s) (s + s)))) := fun w A' N c' hN hE hD hK ht => by
    subst hN
    exact tNodes NA LA n nc m lc D K hz A' (s + s) c' (S.re fun k => if k < s then k else k - s) (by omega) h14 hnm (fun k hk => hs (if k < s then k else k - s) (by split <;> omega)) w hE hD hK ht
  by_cases g0 : stsP D n K m S s
  case neg =>
    have h4 : ∀ R er, NodesIs D n K m S s R er → R = [] ∧ er = 1 := fun R er hi => by
      rcases hi with ⟨_, b, c⟩ | ⟨a, _⟩ | ⟨a, _⟩
      · exact ⟨b, c⟩
      · exact absurd a g0
      · exact absurd a g0
    have H4X := Lib.hid h4
    by_cases hs0 : s = 0
    case pos =>
      have t5 : ((s : Int) == 0) = true := by simp; omega
      have t5' : (s == 0) = true := by simpa using hs0
      clear sg sh s4 h1 h2 h3 hE hD hK hT h14 h16 hnd hlk h20 hst hz hnm hs h4 g0 hs0
      go_enter Tryz.func4, Tryz.ntmps4
      go_upto_region 9 with (first
        | (go_at_call 8
           with_reducible refine (SA.out _ ?_).mono ?_
           focus (exact HE.out.below H0.out)
           rintro e w1 ⟨rfl, hb1⟩
           have H1 := Lib.hid (below_step H0.out hb1)
           have HB1 := Lib.hid (HB0.out.call hb1)
           obtain ⟨d0, d1⟩ := blk2 HB1.out
           clear hb1)
        | (go_at_call 9
           with_reducible refine (SG.out _ ?_ ?_).mono ?_
           focus (exact HD.out.below (Nat.le_refl _) H1.out)
           focus (exact HK.out.below (Nat.le_refl _) H1.out)
           rintro e w2 ⟨rfl, hb2⟩
           have H2 := Lib.hid (below_step H1.out hb2)
           have HB2 := Lib.hid (HB1.out.call hb2)
           obtain ⟨d0, d1⟩ := blk2 HB2.out
           clear hb2)
        | (go_at_call 17
           with_reducible refine (SH.out _ ?_).mono ?_
           focus (exact HT.out.below (Nat.le_refl _) H2.out)
           rintro e w3 ⟨rfl, hb3⟩
           have H3 := Lib.hid (below_step H2.out hb3)
           have HB3 := Lib.hid (HB2.out.call hb3)
           obtain ⟨d0, d1⟩ := blk2 HB3.out
           clear hb3)
        | (go_at_call 18
           with_reducible refine (S4.out _ ?_ ?_ ?_ ?_).mono ?_
           focus (exact HE.out.below H3.out)
           focus (exact HD.out.below (Nat.le_refl _) H3.out)
           focus (exact HK.out.below (Nat.le_refl _) H3.out)
           focus (exact HT.out.below (Nat.le_refl _) H3.out)
           rintro e w4 ⟨R4, er4, A4, N4, c4, hr4, rfl, hN4, hc4, hs4, hb4⟩
           have H4 := Lib.hid (below_step H3.out hb4)
           have HB4 := Lib.hid (HB3.out.call hb4)
           obtain ⟨d0, d1⟩ := blk2 HB4.out
           have HN4 := Lib.hid hN4
           have HR4 := Lib.hid hr4
           have HSa4 := Lib.hid hs4
           have hz4 : N4 = 0 := by rw [hN4, (H4X.out _ _ hr4).1]; rfl
           have hz5 := H4X.out _ _ hr4
           clear hr4 hN4 hc4 hs4
           obtain ⟨rfl, rfl⟩ := hz5
           subst hz4
           clear hb4)
        | (go_at_call 19
           with_reducible refine (SC.out _ ?_).mono ?_
           focus (exact HT.out.below (Nat.le_refl _) H4.out)
           rintro e w5 ⟨A5, c5, rfl, hrev, hb5⟩
           have HRV := Lib.hid hrev
           clear hrev
           have H5 := Lib.hid (below_step H4.out hb5)
           have HW45 := Lib.hid hb5
           clear hb5)
        | (go_at_call 20
           with_reducible refine (HRV.out _ (Below.refl _ _)).mono ?_
           rintro e w6 ⟨rfl, hst, hb6⟩
           have H6 := Lib.hid (below_step H4.out hb6)
           have HB6 := Lib.hid (HB4.out.call hb6)
           obtain ⟨d0, d1⟩ := blk2 HB6.out
           have HT6 := Lib.hid hst
           have HSa6 := Lib.hid (HSa4.out.below (Nat.le_refl _) hb6)
           clear hst hb6)
        | (go_at_call 18
           with_reducible refine (S7.out _ _ _ ?_ ?_ ?_ ?_).mono ?_
           focus (exact HE.out.below H6.out)
           focus (exact HD.out.below (Nat.le_refl _) H6.out)
           focus (exact HK.out.below (Nat.le_refl _) H6.out)
           focus (exact HT6.out)
           rintro e w7 ⟨R7, er7, A7, N7, c7, hr7, rfl, hN7, hc7, hs7, hb7⟩
           obtain ⟨rfl, rfl⟩ := nodes_uniq HR4.out (re_nodes (onto_rev s) hr7)
           obtain rfl : N7 = 0 := hN7.trans HN4.out.symm
           have H7 := Lib.hid (below_step H6.out hb7)
           have HB7 := Lib.hid (HB6.out.call hb7)
           obtain ⟨d0, d1⟩ := blk2 HB7.out
           have HSb7 := Lib.hid hs7
           have HSa7 := Lib.hid (HSa6.out.below (Nat.le_refl _) hb7)
           clear hr7 hN7 hc7 hs7
           clear hb7))
      have KS : Hid (∀ w', Below w7.heap.size w7 w' → w'.cell? ⟨w.heap.size, 0, none⟩ = some (.slice NA n nc) ∧ w'.cell? ⟨w.heap.size, 1, none⟩ = some (.slice LA m lc)) := fun w' h => ⟨(HB7.out.call h).cell 0, (HB7.out.call h).cell 1⟩
      go_region_held3 (fun w' => w'.cell? ⟨w.heap.size, 0, none⟩ = some (.slice NA n nc) ∧ w'.cell? ⟨w.heap.size, 1, none⟩ = some (.slice LA m lc)) (first
        | exact KS.out _ (Below.refl _ w7)
        | exact KS.out _ ((Below.refl _ w7).drew)
        | exact KS.out _ hq8
        | exact KS.out _ hq9
        | exact KS.out _ (by (repeat' (first | assumption | exact Below.refl _ _ | exact Below.size (by assumption) | (refine Below.setCell ?_ ?_ _) | (refine Below.alloc ?_ ?_ _) | (refine Below.drew ?_) | (refine below_drewN ?_ _) | (refine Below.trans ?_ (Below.mono ‹Below _ _ _› ?_)) | omega | (simp; done) | (simp; omega) | (simp at *; omega))))) (first
        | (go_at_call 21
           with_reducible refine (SK.out _ _ ?_ ?_ ?_ ?_).mono ?_
           focus (exact HT.out.below (Nat.le_refl _) (below_step H7.out (by (repeat' (first | assumption | exact Below.refl _ _ | exact Below.size (by assumption) | (refine Below.setCell ?_ ?_ _) | (refine Below.alloc ?_ ?_ _) | (refine Below.drew ?_) | (refine below_drewN ?_ _) | (refine Below.trans ?_ (Below.mono ‹Below _ _ _› ?_)) | omega | (simp; done) | (simp; omega) | (simp at *; omega))))))
           focus (first | (simp; done) | (simp; omega))
           focus (first | exact (Blk.new w7 _ _).cell 0 | exact (Blk.drew1 (Blk.new _ _ _)).cell 0)
           focus (first | exact (Blk.new w7 _ _).cell 1 | exact (Blk.drew1 (Blk.new _ _ _)).cell 1)
           rintro e w8 ⟨A8, N8, c8, hN8, rfl, hst8, hb8⟩
           have hq8 : Below w7.heap.size w7 w8 := Below.trans (by (repeat' (first | assumption | exact Below.refl _ _ | exact Below.size (by assumption) | (refine Below.setCell ?_ ?_ _) | (refine Below.alloc ?_ ?_ _) | (refine Below.drew ?_) | (refine below_drewN ?_ _) | (refine Below.trans ?_ (Below.mono ‹Below _ _ _› ?_)) | omega | (simp; done) | (simp; omega) | (simp at *; omega)))) (hb8.mono (by simp))
           have hs8 := hq8.size
           have HT8 := Lib.hid hst8
           have HN8 := Lib.hid hN8
           have H8 := Lib.hid (below_step H7.out hq8)
           clear hst8 hN8)
        | (go_at_call 18
           with_reducible refine (S9.out _ _ _ _ HN8.out ?_ ?_ ?_ ?_).mono ?_
           focus (exact HE.out.below (below_step H8.out (by (repeat' (first | assumption | exact Below.refl _ _ | exact Below.size (by assumption) | (refine Below.setCell ?_ ?_ _) | (refine Below.alloc ?_ ?_ _) | (refine Below.drew ?_) | (refine below_drewN ?_ _) | (refine Below.trans ?_ (Below.mono ‹Below _ _ _› ?_)) | omega | (simp; done) | (simp; omega) | (simp at *; omega))))))
           focus (exact HD.out.below (Nat.le_refl _) (below_step H8.out (by (repeat' (first | assumption | exact Below.refl _ _ | exact Below.size (by assumption) | (refine Below.setCell ?_ ?_ _) | (refine Below.alloc ?_ ?_ _) | (refine Below.drew ?_) | (refine below_drewN ?_ _) | (refine Below.trans ?_ (Below.mono ‹Below _ _ _› ?_)) | omega | (simp; done) | (simp; omega) | (simp at *; omega))))))
           focus (exact HK.out.below (Nat.le_refl _) (below_step H8.out (by (repeat' (first | assumption | exact Below.refl _ _ | exact Below.size (by assumption) | (refine Below.setCell ?_ ?_ _) | (refine Below.alloc ?_ ?_ _) | (refine Below.drew ?_) | (refine below_drewN ?_ _) | (refine Below.trans ?_ (Below.mono ‹Below _ _ _› ?_)) | omega | (simp; done) | (simp; omega) | (simp at *; omega))))))
           focus (exact HT8.out.below (Nat.le_refl _) (by (repeat' (first | assumption | exact Below.refl _ _ | exact Below.size (by assumption) | (refine Below.setCell ?_ ?_ _) | (refine Below.alloc ?_ ?_ _) | (refine Below.drew ?_) | (refine below_drewN ?_ _) | (refine Below.trans ?_ (Below.mono ‹Below _ _ _› ?_)) | omega | (simp; done) | (simp; omega) | (simp at *; omega)))))
           rintro e w9 ⟨R9, er9, A9, N9, c9, hr9, rfl, hN9, hc9, hs9, hb9⟩
           have hr9' := re_nodes (onto_two s) hr9
           obtain ⟨rfl, rfl⟩ := nodes_uniq HR4.out hr9'
           obtain rfl : N9 = 0 := hN9.trans HN4.out.symm
           have hq9 : Below w7.heap.size w7 w9 := Below.trans hq8 (Below.trans (by (repeat' (first | assumption | exact Below.refl _ _ | exact Below.size (by assumption) | (refine Below.setCell ?_ ?_ _) | (refine Below.alloc ?_ ?_ _) | (refine Below.drew ?_) | (refine below_drewN ?_ _) | (refine Below.trans ?_ (Below.mono ‹Below _ _ _› ?_)) | omega | (simp; done) | (simp; omega) | (simp at *; omega)))) (hb9.mono (Nat.le_trans hq8.size (by simp))))
           have H9 := Lib.hid (below_step H7.out hq9)
           have HB9 := Lib.hid (HB7.out.call hq9)
           have HSc9 := Lib.hid hs9
           have HSa9 := Lib.hid (HSa7.out.below (Nat.le_refl _) hq9)
           have HSb9 := Lib.hid (HSb7.out.below (Nat.le_refl _) hq9)
           clear hr9 hr9' hN9 hc9 hs9 hb9))
      obtain ⟨d0, d1⟩ := blk2 HB9.out
      go_wp2_with (first
        | (go_at_call 16
           with_reducible refine (sequal_same _ _ _ _ _ _ _ HSa9.out HSb9.out).mono ?_
           rintro e w10 ⟨rfl, hb10⟩
           have H10 := Lib.hid (below_step H9.out hb10)
           have HB10 := Lib.hid (HB9.out.call hb10)
           obtain ⟨d0, d1⟩ := blk2 HB10.out
           have HSa10 := Lib.hid (HSa9.out.below (Nat.le_refl _) hb10)
           have HSc10 := Lib.hid (HSc9.out.below (Nat.le_refl _) hb10)
           clear hb10)
        | (go_at_call 16
           with_reducible refine (sequal_same _ _ _ _ _ _ _ HSa10.out HSc10.out).mono ?_
           rintro e w11 ⟨rfl, hb11⟩
           have H11 := Lib.hid (below_step H10.out hb11)
           have HB11 := Lib.hid (HB10.out.call hb11)
           obtain ⟨d0, d1⟩ := blk2 HB11.out
           clear hb11))
      go_ret
      exact ⟨rfl, H11.out⟩
    have t5 : ((s : Int) == 0) = false := by simp; omega
    have t5' : (s == 0) = false := by simpa using hs0
    have sv := fun w hD hK => wvalidN NA LA n nc m lc D K hz w hD hK
    by_cases hn : netP D n K m
    case neg =>
      rw [boolOf_false hn] at sv
      have SV := Lib.hid sv
      clear sg sh s4 sv h1 h2 h3 hE hD hK hT h14 h16 hnd hlk h20 hst hz hnm hs h4 g0 hs0 hn
      go_enter Tryz.func4, Tryz.ntmps4
      go_upto_region 9 with (first
        | (go_at_call 8
           with_reducible refine (SA.out _ ?_).mono ?_
           focus (exact HE.out.below H0.out)
           rintro e w1 ⟨rfl, hb1⟩
           have H1 := Lib.hid (below_step H0.out hb1)
           have HB1 := Lib.hid (HB0.out.call hb1)
           obtain ⟨d0, d1⟩ := blk2 HB1.out
           clear hb1)
        | (go_at_call 9
           with_reducible refine (SG.out _ ?_ ?_).mono ?_
           focus (exact HD.out.below (Nat.le_refl _) H1.out)
           focus (exact HK.out.below (Nat.le_refl _) H1.out)
           rintro e w2 ⟨rfl, hb2⟩
           have H2 := Lib.hid (below_step H1.out hb2)
           have HB2 := Lib.hid (HB1.out.call hb2)
           obtain ⟨d0, d1⟩ := blk2 HB2.out
           clear hb2)
        | (go_at_call 17
           with_reducible refine (SH.out _ ?_).mono ?_
           focus (exact HT.out.below (Nat.le_refl _) H2.out)
           rintro e w3 ⟨rfl, hb3⟩
           have H3 := Lib.hid (below_step H2.out hb3)
           have HB3 := Lib.hid (HB2.out.call hb3)
           obtain ⟨d0, d1⟩ := blk2 HB3.out
           clear hb3)
        | (go_at_call 18
           with_reducible refine (S4.out _ ?_ ?_ ?_ ?_).mono ?_
           focus (exact HE.out.below H3.out)
           focus (exact HD.out.below (Nat.le_refl _) H3.out)
           focus (exact HK.out.below (Nat.le_refl _) H3.out)
           focus (exact HT.out.below (Nat.le_refl _) H3.out)
           rintro e w4 ⟨R4, er4, A4, N4, c4, hr4, rfl, hN4, hc4, hs4, hb4⟩
           have H4 := Lib.hid (below_step H3.out hb4)
           have HB4 := Lib.hid (HB3.out.call hb4)
           obtain ⟨d0, d1⟩ := blk2 HB4.out
           have HN4 := Lib.hid hN4
           have HR4 := Lib.hid hr4
           have HSa4 := Lib.hid hs4
           have hz4 : N4 = 0 := by rw [hN4, (H4X.out _ _ hr4).1]; rfl
           have hz5 := H4X.out _ _ hr4
           clear hr4 hN4 hc4 hs4
           obtain ⟨rfl, rfl⟩ := hz5
           subst hz4
           clear hb4)
        | (go_at_call 19
           with_reducible refine (SC.out _ ?_).mono ?_
           focus (exact HT.out.below (Nat.le_refl _) H4.out)
           rintro e w5 ⟨A5, c5, rfl, hrev, hb5⟩
           have HRV := Lib.hid hrev
           clear hrev
           have H5 := Lib.hid (below_step H4.out hb5)
           have HW45 := Lib.hid hb5
           clear hb5)
        | (go_at_call 20
           with_reducible refine (HRV.out _ (Below.refl _ _)).mono ?_
           rintro e w6 ⟨rfl, hst, hb6⟩
           have H6 := Lib.hid (below_step H4.out hb6)
           have HB6 := Lib.hid (HB4.out.call hb6)
           obtain ⟨d0, d1⟩ := blk2 HB6.out
           have HT6 := Lib.hid hst
           have HSa6 := Lib.hid (HSa4.out.below (Nat.le_refl _) hb6)
           clear hst hb6)
        | (go_at_call 18
           with_reducible refine (S7.out _ _ _ ?_ ?_ ?_ ?_).mono ?_
           focus (exact HE.out.below H6.out)
           focus (exact HD.out.below (Nat.le_refl _) H6.out)
           focus (exact HK.out.below (Nat.le_refl _) H6.out)
           focus (exact HT6.out)
           rintro e w7 ⟨R7, er7, A7, N7, c7, hr7, rfl, hN7, hc7, hs7, hb7⟩
           obtain ⟨rfl, rfl⟩ := nodes_uniq HR4.out (re_nodes (onto_rev s) hr7)
           obtain rfl : N7 = 0 := hN7.trans HN4.out.symm
           have H7 := Lib.hid (below_step H6.out hb7)
           have HB7 := Lib.hid (HB6.out.call hb7)
           obtain ⟨d0, d1⟩ := blk2 HB7.out
           have HSb7 := Lib.hid hs7
           have HSa7 := Lib.hid (HSa6.out.below (Nat.le_refl _) hb7)
           clear hr7 hN7 hc7 hs7
           clear hb7))
      have KS : Hid (∀ w', Below w7.heap.size w7 w' → w'.cell? ⟨w.heap.size, 0, none⟩ = some (.slice NA n nc) ∧ w'.cell? ⟨w.heap.size, 1, none⟩ = some (.slice LA m lc)) := fun w' h => ⟨(HB7.out.call h).cell 0, (HB7.out.call h).cell 1⟩
      go_region_held3 (fun w' => w'.cell? ⟨w.heap.size, 0, none⟩ = some (.slice NA n nc) ∧ w'.cell? ⟨w.heap.size, 1, none⟩ = some (.slice LA m lc)) (first
        | exact KS.out _ (Below.refl _ w7)
        | exact KS.out _ ((Below.refl _ w7).drew)
        | exact KS.out _ hq8
        | exact KS.out _ hq9
        | exact KS.out _ (by (repeat' (first | assumption | exact Below.refl _ _ | exact Below.size (by assumption) | (refine Below.setCell ?_ ?_ _) | (refine Below.alloc ?_ ?_ _) | (refine Below.drew ?_) | (refine below_drewN ?_ _) | (refine Below.trans ?_ (Below.mono ‹Below _ _ _› ?_)) | omega | (simp; done) | (simp; omega) | (simp at *; omega))))) (first
        | (go_at_call 21
           with_reducible refine (SK.out _ _ ?_ ?_ ?_ ?_).mono ?_
           focus (exact HT.out.below (Nat.le_refl _) (below_step H7.out (by (repeat' (first | assumption | exact Below.refl _ _ | exact Below.size (by assumption) | (refine Below.setCell ?_ ?_ _) | (refine Below.alloc ?_ ?_ _) | (refine Below.drew ?_) | (refine below_drewN ?_ _) | (refine Below.trans ?_ (Below.mono ‹Below _ _ _› ?_)) | omega | (simp; done) | (simp; omega) | (simp at *; omega))))))
           focus (first | (simp; done) | (simp; omega))
           focus (first | exact (Blk.new w7 _ _).cell 0 | exact (Blk.drew1 (Blk.new _ _ _)).cell 0)
           focus (first | exact (Blk.new w7 _ _).cell 1 | exact (Blk.drew1 (Blk.new _ _ _)).cell 1)
           rintro e w8 ⟨A8, N8, c8, hN8, rfl, hst8, hb8⟩
           have hq8 : Below w7.heap.size w7 w8 := Below.trans (by (repeat' (first | assumption | exact Below.refl _ _ | exact Below.size (by assumption) | (refine Below.setCell ?_ ?_ _) | (refine Below.alloc ?_ ?_ _) | (refine Below.drew ?_) | (refine below_drewN ?_ _) | (refine Below.trans ?_ (Below.mono ‹Below _ _ _› ?_)) | omega | (simp; done) | (simp; omega) | (simp at *; omega)))) (hb8.mono (by simp))
           have hs8 := hq8.size
           have HT8 := Lib.hid hst8
           have HN8 := Lib.hid hN8
           have H8 := Lib.hid (below_step H7.out hq8)
           clear hst8 hN8)
        | (go_at_call 18
           with_reducible refine (S9.out _ _ _ _ HN8.out ?_ ?_ ?_ ?_).mono ?_
           focus (exact HE.out.below (below_step H8.out (by (repeat' (first | assumption | exact Below.refl _ _ | exact Below.size (by assumption) | (refine Below.setCell ?_ ?_ _) | (refine Below.alloc ?_ ?_ _) | (refine Below.drew ?_) | (refine below_drewN ?_ _) | (refine Below.trans ?_ (Below.mono ‹Below _ _ _› ?_)) | omega | (simp; done) | (simp; omega) | (simp at *; omega))))))
           focus (exact HD.out.below (Nat.le_refl _) (below_step H8.out (by (repeat' (first | assumption | exact Below.refl _ _ | exact Below.size (by assumption) | (refine Below.setCell ?_ ?_ _) | (refine Below.alloc ?_ ?_ _) | (refine Below.drew ?_) | (refine below_drewN ?_ _) | (refine Below.trans ?_ (Below.mono ‹Below _ _ _› ?_)) | omega | (simp; done) | (simp; omega) | (simp at *; omega))))))
           focus (exact HK.out.below (Nat.le_refl _) (below_step H8.out (by (repeat' (first | assumption | exact Below.refl _ _ | exact Below.size (by assumption) | (refine Below.setCell ?_ ?_ _) | (refine Below.alloc ?_ ?_ _) | (refine Below.drew ?_) | (refine below_drewN ?_ _) | (refine Below.trans ?_ (Below.mono ‹Below _ _ _› ?_)) | omega | (simp; done) | (simp; omega) | (simp at *; omega))))))
           focus (exact HT8.out.below (Nat.le_refl _) (by (repeat' (first | assumption | exact Below.refl _ _ | exact Below.size (by assumption) | (refine Below.setCell ?_ ?_ _) | (refine Below.alloc ?_ ?_ _) | (refine Below.drew ?_) | (refine below_drewN ?_ _) | (refine Below.trans ?_ (Below.mono ‹Below _ _ _› ?_)) | omega | (simp; done) | (simp; omega) | (simp at *; omega)))))
           rintro e w9 ⟨R9, er9, A9, N9, c9, hr9, rfl, hN9, hc9, hs9, hb9⟩
           have hr9' := re_nodes (onto_two s) hr9
           obtain ⟨rfl, rfl⟩ := nodes_uniq HR4.out hr9'
           obtain rfl : N9 = 0 := hN9.trans HN4.out.symm
           have hq9 : Below w7.heap.size w7 w9 := Below.trans hq8 (Below.trans (by (repeat' (first | assumption | exact Below.refl _ _ | exact Below.size (by assumption) | (refine Below.setCell ?_ ?_ _) | (refine Below.alloc ?_ ?_ _) | (refine Below.drew ?_) | (refine below_drewN ?_ _) | (refine Below.trans ?_ (Below.mono ‹Below _ _ _› ?_)) | omega | (simp; done) | (simp; omega) | (simp at *; omega)))) (hb9.mono (Nat.le_trans hq8.size (by simp))))
           have H9 := Lib.hid (below_step H7.out hq9)
           have HB9 := Lib.hid (HB7.out.call hq9)
           have HSc9 := Lib.hid hs9
           have HSa9 := Lib.hid (HSa7.out.below (Nat.le_refl _) hq9)
           have HSb9 := Lib.hid (HSb7.out.below (Nat.le_refl _) hq9)
           clear hr9 hr9' hN9 hc9 hs9 hb9))
      obtain ⟨d0, d1⟩ := blk2 HB9.out
      go_wp2_with (first
        | (go_at_call 16
           with_reducible refine (sequal_same _ _ _ _ _ _ _ HSa9.out HSb9.out).mono ?_
           rintro e w10 ⟨rfl, hb10⟩
           have H10 := Lib.hid (below_step H9.out hb10)
           have HB10 := Lib.hid (HB9.out.call hb10)
           obtain ⟨d0, d1⟩ := blk2 HB10.out
           have HSa10 := Lib.hid (HSa9.out.below (Nat.le_refl _) hb10)
           have HSc10 := Lib.hid (HSc9.out.below (Nat.le_refl _) hb10)
           clear hb10)
        | (go_at_call 16
           with_reducible refine (sequal_same _ _ _ _ _ _ _ HSa10.out HSc10.out).mono ?_
           rintro e w11 ⟨rfl, hb11⟩
           have H11 := Lib.hid (below_step H10.out hb11)
           have HB11 := Lib.hid (HB10.out.call hb11)
           obtain ⟨d0, d1⟩ := blk2 HB11.out
           clear hb11)
        | (go_at_call 22
           with_reducible refine (SV.out _ ?_ ?_).mono ?_
           focus (exact HD.out.below (Nat.le_refl _) H11.out)
           focus (exact HK.out.below (Nat.le_refl _) H11.out)
           rintro e w12 ⟨rfl, hb12⟩
           have H12 := Lib.hid (below_step H11.out hb12)
           have HB12 := Lib.hid (HB11.out.call hb12)
           obtain ⟨d0, d1⟩ := blk2 HB12.out
           clear hb12))
      go_ret
      exact ⟨rfl, H12.out⟩
    rw [boolOf_true hn] at sv
    have SV := Lib.hid sv
    have hbad : ∃ j, j < s ∧ (fun j => !(boolOf (stP D n K m S j))) j = true := Classical.byContradiction fun h => g0 ⟨hn, fun k hk => Classical.byContradiction fun g => h ⟨k, hk, by show (!(boolOf (stP D n K m S k))) = true; exact boolOf_not.2 g⟩⟩
    have SF := Lib.hid fun w1 hD hK ht hB => has_same NA LA n nc m lc D K hz hn A s c S w.heap.size w1 (by omega) hs hD hK ht hB true ⟨fun _ => hbad, fun _ => rfl⟩
    clear sg sh s4 sv h1 h2 h3 hE hD hK hT h14 h16 hnd hlk h20 hst hz hnm hs h4 g0 hs0 hn hbad
    go_enter Tryz.func4, Tryz.ntmps4
    go_upto_region 9 with (first
      | (go_at_call 8
         with_reducible refine (SA.out _ ?_).mono ?_
         focus (exact HE.out.below H0.out)
         rintro e w1 ⟨rfl, hb1⟩
         have H1 := Lib.hid (below_step H0.out hb1)
         have HB1 := Lib.hid (HB0.out.call hb1)
         obtain ⟨d0, d1⟩ := blk2 HB1.out
         clear hb1)
      | (go_at_call 9
         with_reducible refine (SG.out _ ?_ ?_).mono ?_
         focus (exact HD.out.below (Nat.le_refl _) H1.out)
         focus (exact HK.out.below (Nat.le_refl _) H1.out)
         rintro e w2 ⟨rfl, hb2⟩
         have H2 := Lib.hid (below_step H1.out hb2)
         have HB2 := Lib.hid (HB1.out.call hb2)
         obtain ⟨d0, d1⟩ := blk2 HB2.out
         clear hb2)
      | (go_at_call 17
         with_reducible refine (SH.out _ ?_).mono ?_
         focus (exact HT.out.below (Nat.le_refl _) H2.out)
         rintro e w3 ⟨rfl, hb3⟩
         have H3 := Lib.hid (below_step H2.out hb3)
         have HB3 := Lib.hid (HB2.out.call hb3)
         obtain ⟨d0, d1⟩ := blk2 HB3.out
         clear hb3)
      | (go_at_call 18
         with_reducible refine (S4.out _ ?_ ?_ ?_ ?_).mono ?_
         focus (exact HE.out.below H3.out)
         focus (exact HD.out.below (Nat.le_refl _) H3.out)
         focus (exact HK.out.below (Nat.le_refl _) H3.out)
         focus (exact HT.out.below (Nat.le_refl _) H3.out)
         rintro e w4 ⟨R4, er4, A4, N4, c4, hr4, rfl, hN4, hc4, hs4, hb4⟩
         have H4 := Lib.hid (below_step H3.out hb4)
         have HB4 := Lib.hid (HB3.out.call hb4)
         obtain ⟨d0, d1⟩ := blk2 HB4.out
         have HN4 := Lib.hid hN4
         have HR4 := Lib.hid hr4
         have HSa4 := Lib.hid hs4
         have hz4 : N4 = 0 := by rw [hN4, (H4X.out _ _ hr4).1]; rfl
         have hz5 := H4X.out _ _ hr4
         clear hr4 hN4 hc4 hs4
         obtain ⟨rfl, rfl⟩ := hz5
         subst hz4
         clear hb4)
      | (go_at_call 19
         with_reducible refine (SC.out _ ?_).mono ?_
         focus (exact HT.out.below (Nat.le_refl _) H4.out)
         rintro e w5 ⟨A5, c5, rfl, hrev, hb5⟩
         have HRV := Lib.hid hrev
         clear hrev
         have H5 := Lib.hid (below_step H4.out hb5)
         have HW45 := Lib.hid hb5
         clear hb5)
      | (go_at_call 20
         with_reducible refine (HRV.out _ (Below.refl _ _)).mono ?_
         rintro e w6 ⟨rfl, hst, hb6⟩
         have H6 := Lib.hid (below_step H4.out hb6)
         have HB6 := Lib.hid (HB4.out.call hb6)
         obtain ⟨d0, d1⟩ := blk2 HB6.out
         have HT6 := Lib.hid hst
         have HSa6 := Lib.hid (HSa4.out.below (Nat.le_refl _) hb6)
         clear hst hb6)
      | (go_at_call 18
         with_reducible refine (S7.out _ _ _ ?_ ?_ ?_ ?_).mono ?_
         focus (exact HE.out.below H6.out)
         focus (exact HD.out.below (Nat.le_refl _) H6.out)
         focus (exact HK.out.below (Nat.le_refl _) H6.out)
         focus (exact HT6.out)
         rintro e w7 ⟨R7, er7, A7, N7, c7, hr7, rfl, hN7, hc7, hs7, hb7⟩
         obtain ⟨rfl, rfl⟩ := nodes_uniq HR4.out (re_nodes (onto_rev s) hr7)
         obtain rfl : N7 = 0 := hN7.trans HN4.out.symm
         have H7 := Lib.hid (below_step H6.out hb7)
         have HB7 := Lib.hid (HB6.out.call hb7)
         obtain ⟨d0, d1⟩ := blk2 HB7.out
         have HSb7 := Lib.hid hs7
         have HSa7 := Lib.hid (HSa6.out.below (Nat.le_refl _) hb7)
         clear hr7 hN7 hc7 hs7
         clear hb7))
    have KS : Hid (∀ w', Below w7.heap.size w7 w' → w'.cell? ⟨w.heap.size, 0, none⟩ = some (.slice NA n nc) ∧ w'.cell? ⟨w.heap.size, 1, none⟩ = some (.slice LA m lc)) := fun w' h => ⟨(HB7.out.call h).cell 0, (HB7.out.call h).cell 1⟩
    go_region_held3 (fun w' => w'.cell? ⟨w.heap.size, 0, none⟩ = some (.slice NA n nc) ∧ w'.cell? ⟨w.heap.size, 1, none⟩ = some (.slice LA m lc)) (first
      | exact KS.out _ (Below.refl _ w7)
      | exact KS.out _ ((Below.refl _ w7).drew)
      | exact KS.out _ hq8
      | exact KS.out _ hq9
      | exact KS.out _ (by (repeat' (first | assumption | exact Below.refl _ _ | exact Below.size (by assumption) | (refine Below.setCell ?_ ?_ _) | (refine Below.alloc ?_ ?_ _) | (refine Below.drew ?_) | (refine below_drewN ?_ _) | (refine Below.trans ?_ (Below.mono ‹Below _ _ _› ?_)) | omega | (simp; done) | (simp; omega) | (simp at *; omega))))) (first
      | (go_at_call 21
         with_reducible refine (SK.out _ _ ?_ ?_ ?_ ?_).mono ?_
         focus (exact HT.out.below (Nat.le_refl _) (below_step H7.out (by (repeat' (first | assumption | exact Below.refl _ _ | exact Below.size (by assumption) | (refine Below.setCell ?_ ?_ _) | (refine Below.alloc ?_ ?_ _) | (refine Below.drew ?_) | (refine below_drewN ?_ _) | (refine Below.trans ?_ (Below.mono ‹Below _ _ _› ?_)) | omega | (simp; done) | (simp; omega) | (simp at *; omega))))))
         focus (first | (simp; done) | (simp; omega))
         focus (first | exact (Blk.new w7 _ _).cell 0 | exact (Blk.drew1 (Blk.new _ _ _)).cell 0)
         focus (first | exact (Blk.new w7 _ _).cell 1 | exact (Blk.drew1 (Blk.new _ _ _)).cell 1)
         rintro e w8 ⟨A8, N8, c8, hN8, rfl, hst8, hb8⟩
         have hq8 : Below w7.heap.size w7 w8 := Below.trans (by (repeat' (first | assumption | exact Below.refl _ _ | exact Below.size (by assumption) | (refine Below.setCell ?_ ?_ _) | (refine Below.alloc ?_ ?_ _) | (refine Below.drew ?_) | (refine below_drewN ?_ _) | (refine Below.trans ?_ (Below.mono ‹Below _ _ _› ?_)) | omega | (simp; done) | (simp; omega) | (simp at *; omega)))) (hb8.mono (by simp))
         have hs8 := hq8.size
         have HT8 := Lib.hid hst8
         have HN8 := Lib.hid hN8
         have H8 := Lib.hid (below_step H7.out hq8)
         clear hst8 hN8)
      | (go_at_call 18
         with_reducible refine (S9.out _ _ _ _ HN8.out ?_ ?_ ?_ ?_).mono ?_
         focus (exact HE.out.below (below_step H8.out (by (repeat' (first | assumption | exact Below.refl _ _ | exact Below.size (by assumption) | (refine Below.setCell ?_ ?_ _) | (refine Below.alloc ?_ ?_ _) | (refine Below.drew ?_) | (refine below_drewN ?_ _) | (refine Below.trans ?_ (Below.mono ‹Below _ _ _› ?_)) | omega | (simp; done) | (simp; omega) | (simp at *; omega))))))
         focus (exact HD.out.below (Nat.le_refl _) (below_step H8.out (by (repeat' (first | assumption | exact Below.refl _ _ | exact Below.size (by assumption) | (refine Below.setCell ?_ ?_ _) | (refine Below.alloc ?_ ?_ _) | (refine Below.drew ?_) | (refine below_drewN ?_ _) | (refine Below.trans ?_ (Below.mono ‹Below _ _ _› ?_)) | omega | (simp; done) | (simp; omega) | (simp at *; omega))))))
         focus (exact HK.out.below (Nat.le_refl _) (below_step H8.out (by (repeat' (first | assumption | exact Below.refl _ _ | exact Below.size (by assumption) | (refine Below.setCell ?_ ?_ _) | (refine Below.alloc ?_ ?_ _) | (refine Below.drew ?_) | (refine below_drewN ?_ _) | (refine Below.trans ?_ (Below.mono ‹Below _ _ _› ?_)) | omega | (simp; done) | (simp; omega) | (simp at *; omega))))))
         focus (exact HT8.out.below (Nat.le_refl _) (by (repeat' (first | assumption | exact Below.refl _ _ | exact Below.size (by assumption) | (refine Below.setCell ?_ ?_ _) | (refine Below.alloc ?_ ?_ _) | (refine Below.drew ?_) | (refine below_drewN ?_ _) | (refine Below.trans ?_ (Below.mono ‹Below _ _ _› ?_)) | omega | (simp; done) | (simp; omega) | (simp at *; omega)))))
         rintro e w9 ⟨R9, er9, A9, N9, c9, hr9, rfl, hN9, hc9, hs9, hb9⟩
         have hr9' := re_nodes (onto_two s) hr9
         obtain ⟨rfl, rfl⟩ := nodes_uniq HR4.out hr9'
         obtain rfl : N9 = 0 := hN9.trans HN4.out.symm
         have hq9 : Below w7.heap.size w7 w9 := Below.trans hq8 (Below.trans (by (repeat' (first | assumption | exact Below.refl _ _ | exact Below.size (by assumption) | (refine Below.setCell ?_ ?_ _) | (refine Below.alloc ?_ ?_ _) | (refine Below.drew ?_) | (refine below_drewN ?_ _) | (refine Below.trans ?_ (Below.mono ‹Below _ _ _› ?_)) | omega | (simp; done) | (simp; omega) | (simp at *; omega)))) (hb9.mono (Nat.le_trans hq8.size (by simp))))
         have H9 := Lib.hid (below_step H7.out hq9)
         have HB9 := Lib.hid (HB7.out.call hq9)
         have HSc9 := Lib.hid hs9
         have HSa9 := Lib.hid (HSa7.out.below (Nat.le_refl _) hq9)
         have HSb9 := Lib.hid (HSb7.out.below (Nat.le_refl _) hq9)
         clear hr9 hr9' hN9 hc9 hs9 hb9))
    obtain ⟨d0, d1⟩ := blk2 HB9.out
    go_wp2_with (first
      | (go_at_call 16
         with_reducible refine (sequal_same _ _ _ _ _ _ _ HSa9.out HSb9.out).mono ?_
         rintro e w10 ⟨rfl, hb10⟩
         have H10 := Lib.hid (below_step H9.out hb10)
         have HB10 := Lib.hid (HB9.out.call hb10)
         obtain ⟨d0, d1⟩ := blk2 HB10.out
         have HSa10 := Lib.hid (HSa9.out.below (Nat.le_refl _) hb10)
         have HSc10 := Lib.hid (HSc9.out.below (Nat.le_refl _) hb10)
         clear hb10)
      | (go_at_call 16
         with_reducible refine (sequal_same _ _ _ _ _ _ _ HSa10.out HSc10.out).mono ?_
         rintro e w11 ⟨rfl, hb11⟩
         have H11 := Lib.hid (below_step H10.out hb11)
         have HB11 := Lib.hid (HB10.out.call hb11)
         obtain ⟨d0, d1⟩ := blk2 HB11.out
         clear hb11)
      | (go_at_call 22
         with_reducible refine (SV.out _ ?_ ?_).mono ?_
         focus (exact HD.out.below (Nat.le_refl _) H11.out)
         focus (exact HK.out.below (Nat.le_refl _) H11.out)
         rintro e w12 ⟨rfl, hb12⟩
         have H12 := Lib.hid (below_step H11.out hb12)
         have HB12 := Lib.hid (HB11.out.call hb12)
         obtain ⟨d0, d1⟩ := blk2 HB12.out
         clear hb12)
      | (go_at_call 23
         with_reducible refine (SF.out _ ?_ ?_ ?_ ?_).mono ?_
         focus (exact HD.out.below (Nat.le_refl _) H12.out)
         focus (exact HK.out.below (Nat.le_refl _) H12.out)
         focus (exact HT.out.below (Nat.le_refl _) H12.out)
         focus (exact HB12.out)
         rintro e w13 ⟨rfl, hb13⟩
         have H13 := Lib.hid (below_step H12.out hb13)
         clear hb13))
    go_ret
    exact ⟨rfl, H13.out⟩
  by_cases hs0 : s = 0
  case pos =>
    have h4 : ∀ R er, NodesIs D n K m S s R er → R = [] ∧ er = 14 := fun R er hi => by
      rcases hi with ⟨a, _⟩ | ⟨_, _, b, c⟩ | ⟨_, a, _⟩
      · exact absurd g0 a
      · exact ⟨b, c⟩
      · omega
    have H4X := Lib.hid h4
    have t5 : ((s : Int) == 0) = true := by simp; omega
    have t5' : (s == 0) = true := by simpa using hs0
    clear sg sh s4 h1 h2 h3 hE hD hK hT h14 h16 hnd hlk h20 hst hz hnm hs h4 g0 hs0
    go_enter Tryz.func4, Tryz.ntmps4
    go_upto_region 9 with (first
      | (go_at_call 8
         with_reducible refine (SA.out _ ?_).mono ?_
         focus (exact HE.out.below H0.out)
         rintro e w1 ⟨rfl, hb1⟩
         have H1 := Lib.hid (below_step H0.out hb1)
         have HB1 := Lib.hid (HB0.out.call hb1)
         obtain ⟨d0, d1⟩ := blk2 HB1.out
         clear hb1)
      | (go_at_call 9
         with_reducible refine (SG.out _ ?_ ?_).mono ?_
         focus (exact HD.out.below (Nat.le_refl _) H1.out)
         focus (exact HK.out.below (Nat.le_refl _) H1.out)
         rintro e w2 ⟨rfl, hb2⟩
         have H2 := Lib.hid (below_step H1.out hb2)
         have HB2 := Lib.hid (HB1.out.call hb2)
         obtain ⟨d0, d1⟩ := blk2 HB2.out
         clear hb2)
      | (go_at_call 17
         with_reducible refine (SH.out _ ?_).mono ?_
         focus (exact HT.out.below (Nat.le_refl _) H2.out)
         rintro e w3 ⟨rfl, hb3⟩
         have H3 := Lib.hid (below_step H2.out hb3)
         have HB3 := Lib.hid (HB2.out.call hb3)
         obtain ⟨d0, d1⟩ := blk2 HB3.out
         clear hb3)
      | (go_at_call 18
         with_reducible refine (S4.out _ ?_ ?_ ?_ ?_).mono ?_
         focus (exact HE.out.below H3.out)
         focus (exact HD.out.below (Nat.le_refl _) H3.out)
         focus (exact HK.out.below (Nat.le_refl _) H3.out)
         focus (exact HT.out.below (Nat.le_refl _) H3.out)
         rintro e w4 ⟨R4, er4, A4, N4, c4, hr4, rfl, hN4, hc4, hs4, hb4⟩
         have H4 := Lib.hid (below_step H3.out hb4)
         have HB4 := Lib.hid (HB3.out.call hb4)
         obtain ⟨d0, d1⟩ := blk2 HB4.out
         have HN4 := Lib.hid hN4
         have HR4 := Lib.hid hr4
         have HSa4 := Lib.hid hs4
         have hz4 : N4 = 0 := by rw [hN4, (H4X.out _ _ hr4).1]; rfl
         have hz5 := H4X.out _ _ hr4
         clear hr4 hN4 hc4 hs4
         obtain ⟨rfl, rfl⟩ := hz5
         subst hz4
         clear hb4)
      | (go_at_call 19
         with_reducible refine (SC.out _ ?_).mono ?_
         focus (exact HT.out.below (Nat.le_refl _) H4.out)
         rintro e w5 ⟨A5, c5, rfl, hrev, hb5⟩
         have HRV := Lib.hid hrev
         clear hrev
         have H5 := Lib.hid (below_step H4.out hb5)
         have HW45 := Lib.hid hb5
         clear hb5)
      | (go_at_call 20
         with_reducible refine (HRV.out _ (Below.refl _ _)).mono ?_
         rintro e w6 ⟨rfl, hst, hb6⟩
         have H6 := Lib.hid (below_step H4.out hb6)
         have HB6 := Lib.hid (HB4.out.call hb6)
         obtain ⟨d0, d1⟩ := blk2 HB6.out
         have HT6 := Lib.hid hst
         have HSa6 := Lib.hid (HSa4.out.below (Nat.le_refl _) hb6)
         clear hst hb6)
      | (go_at_call 18
         with_reducible refine (S7.out _ _ _ ?_ ?_ ?_ ?_).mono ?_
         focus (exact HE.out.below H6.out)
         focus (exact HD.out.below (Nat.le_refl _) H6.out)
         focus (exact HK.out.below (Nat.le_refl _) H6.out)
         focus (exact HT6.out)
         rintro e w7 ⟨R7, er7, A7, N7, c7, hr7, rfl, hN7, hc7, hs7, hb7⟩
         obtain ⟨rfl, rfl⟩ := nodes_uniq HR4.out (re_nodes (onto_rev s) hr7)
         obtain rfl : N7 = 0 := hN7.trans HN4.out.symm
         have H7 := Lib.hid (below_step H6.out hb7)
         have HB7 := Lib.hid (HB6.out.call hb7)
         obtain ⟨d0, d1⟩ := blk2 HB7.out
         have HSb7 := Lib.hid hs7
         have HSa7 := Lib.hid (HSa6.out.below (Nat.le_refl _) hb7)
         clear hr7 hN7 hc7 hs7
         clear hb7))
    have KS : Hid (∀ w', Below w7.heap.size w7 w' → w'.cell? ⟨w.heap.size, 0, none⟩ = some (.slice NA n nc) ∧ w'.cell? ⟨w.heap.size, 1, none⟩ = some (.slice LA m lc)) := fun w' h => ⟨(HB7.out.call h).cell 0, (HB7.out.call h).cell 1⟩
    go_region_held3 (fun w' => w'.cell? ⟨w.heap.size, 0, none⟩ = some (.slice NA n nc) ∧ w'.cell? ⟨w.heap.size, 1, none⟩ = some (.slice LA m lc)) (first
      | exact KS.out _ (Below.refl _ w7)
      | exact KS.out _ ((Below.refl _ w7).drew)
      | exact KS.out _ hq8
      | exact KS.out _ hq9
      | exact KS.out _ (by (repeat' (first | assumption | exact Below.refl _ _ | exact Below.size (by assumption) | (refine Below.setCell ?_ ?_ _) | (refine Below.alloc ?_ ?_ _) | (refine Below.drew ?_) | (refine below_drewN ?_ _) | (refine Below.trans ?_ (Below.mono ‹Below _ _ _› ?_)) | omega | (simp; done) | (simp; omega) | (simp at *; omega))))) (first
      | (go_at_call 21
         with_reducible refine (SK.out _ _ ?_ ?_ ?_ ?_).mono ?_
         focus (exact HT.out.below (Nat.le_refl _) (below_step H7.out (by (repeat' (first | assumption | exact Below.refl _ _ | exact Below.size (by assumption) | (refine Below.setCell ?_ ?_ _) | (refine Below.alloc ?_ ?_ _) | (refine Below.drew ?_) | (refine below_drewN ?_ _) | (refine Below.trans ?_ (Below.mono ‹Below _ _ _› ?_)) | omega | (simp; done) | (simp; omega) | (simp at *; omega))))))
         focus (first | (simp; done) | (simp; omega))
         focus (first | exact (Blk.new w7 _ _).cell 0 | exact (Blk.drew1 (Blk.new _ _ _)).cell 0)
         focus (first | exact (Blk.new w7 _ _).cell 1 | exact (Blk.drew1 (Blk.new _ _ _)).cell 1)
         rintro e w8 ⟨A8, N8, c8, hN8, rfl, hst8, hb8⟩
         have hq8 : Below w7.heap.size w7 w8 := Below.trans (by (repeat' (first | assumption | exact Below.refl _ _ | exact Below.size (by assumption) | (refine Below.setCell ?_ ?_ _) | (refine Below.alloc ?_ ?_ _) | (refine Below.drew ?_) | (refine below_drewN ?_ _) | (refine Below.trans ?_ (Below.mono ‹Below _ _ _› ?_)) | omega | (simp; done) | (simp; omega) | (simp at *; omega)))) (hb8.mono (by simp))
         have hs8 := hq8.size
         have HT8 := Lib.hid hst8
         have HN8 := Lib.hid hN8
         have H8 := Lib.hid (below_step H7.out hq8)
         clear hst8 hN8)
      | (go_at_call 18
         with_reducible refine (S9.out _ _ _ _ HN8.out ?_ ?_ ?_ ?_).mono ?_
         focus (exact HE.out.below (below_step H8.out (by (repeat' (first | assumption | exact Below.refl _ _ | exact Below.size (by assumption) | (refine Below.setCell ?_ ?_ _) | (refine Below.alloc ?_ ?_ _) | (refine Below.drew ?_) | (refine below_drewN ?_ _) | (refine Below.trans ?_ (Below.mono ‹Below _ _ _› ?_)) | omega | (simp; done) | (simp; omega) | (simp at *; omega))))))
         focus (exact HD.out.below (Nat.le_refl _) (below_step H8.out (by (repeat' (first | assumption | exact Below.refl _ _ | exact Below.size (by assumption) | (refine Below.setCell ?_ ?_ _) | (refine Below.alloc ?_ ?_ _) | (refine Below.drew ?_) | (refine below_drewN ?_ _) | (refine Below.trans ?_ (Below.mono ‹Below _ _ _› ?_)) | omega | (simp; done) | (simp; omega) | (simp at *; omega))))))
         focus (exact HK.out.below (Nat.le_refl _) (below_step H8.out (by (repeat' (first | assumption | exact Below.refl _ _ | exact Below.size (by assumption) | (refine Below.setCell ?_ ?_ _) | (refine Below.alloc ?_ ?_ _) | (refine Below.drew ?_) | (refine below_drewN ?_ _) | (refine Below.trans ?_ (Below.mono ‹Below _ _ _› ?_)) | omega | (simp; done) | (simp; omega) | (simp at *; omega))))))
         focus (exact HT8.out.below (Nat.le_refl _) (by (repeat' (first | assumption | exact Below.refl _ _ | exact Below.size (by assumption) | (refine Below.setCell ?_ ?_ _) | (refine Below.alloc ?_ ?_ _) | (refine Below.drew ?_) | (refine below_drewN ?_ _) | (refine Below.trans ?_ (Below.mono ‹Below _ _ _› ?_)) | omega | (simp; done) | (simp; omega) | (simp at *; omega)))))
         rintro e w9 ⟨R9, er9, A9, N9, c9, hr9, rfl, hN9, hc9, hs9, hb9⟩
         have hr9' := re_nodes (onto_two s) hr9
         obtain ⟨rfl, rfl⟩ := nodes_uniq HR4.out hr9'
         obtain rfl : N9 = 0 := hN9.trans HN4.out.symm
         have hq9 : Below w7.heap.size w7 w9 := Below.trans hq8 (Below.trans (by (repeat' (first | assumption | exact Below.refl _ _ | exact Below.size (by assumption) | (refine Below.setCell ?_ ?_ _) | (refine Below.alloc ?_ ?_ _) | (refine Below.drew ?_) | (refine below_drewN ?_ _) | (refine Below.trans ?_ (Below.mono ‹Below _ _ _› ?_)) | omega | (simp; done) | (simp; omega) | (simp at *; omega)))) (hb9.mono (Nat.le_trans hq8.size (by simp))))
         have H9 := Lib.hid (below_step H7.out hq9)
         have HB9 := Lib.hid (HB7.out.call hq9)
         have HSc9 := Lib.hid hs9
         have HSa9 := Lib.hid (HSa7.out.below (Nat.le_refl _) hq9)
         have HSb9 := Lib.hid (HSb7.out.below (Nat.le_refl _) hq9)
         clear hr9 hr9' hN9 hc9 hs9 hb9))
    obtain ⟨d0, d1⟩ := blk2 HB9.out
    go_wp2_with (first
      | (go_at_call 16
         with_reducible refine (sequal_same _ _ _ _ _ _ _ HSa9.out HSb9.out).mono ?_
         rintro e w10 ⟨rfl, hb10⟩
         have H10 := Lib.hid (below_step H9.out hb10)
         have HB10 := Lib.hid (HB9.out.call hb10)
         obtain ⟨d0, d1⟩ := blk2 HB10.out
         have HSa10 := Lib.hid (HSa9.out.below (Nat.le_refl _) hb10)
         have HSc10 := Lib.hid (HSc9.out.below (Nat.le_refl _) hb10)
         clear hb10)
      | (go_at_call 16
         with_reducible refine (sequal_same _ _ _ _ _ _ _ HSa10.out HSc10.out).mono ?_
         rintro e w11 ⟨rfl, hb11⟩
         have H11 := Lib.hid (below_step H10.out hb11)
         have HB11 := Lib.hid (HB10.out.call hb11)
         obtain ⟨d0, d1⟩ := blk2 HB11.out
         clear hb11))
    go_ret
    exact ⟨rfl, H11.out⟩
  have h4 : ∀ R er, NodesIs D n K m S s R er → R = nout D S s n ∧ er = 0 := fun R er hi => by
    rcases hi with ⟨a, _⟩ | ⟨_, a, _⟩ | ⟨_, _, b, c⟩
    · exact absurd g0 a
    · exact absurd a hs0
    · exact ⟨b, c⟩
  have H4X := Lib.hid h4
  have y4 : IntKind.i64.wrap (2 * (n : Int)) = 2 * (n : Int) := by rw [IntKind.wrap_i64]; omega
  clear sg sh s4 h1 h2 h3 hE hD hK hT h14 h16 hnd hlk h20 hst hz hnm hs h4 g0 hs0
  go_enter Tryz.func4, Tryz.ntmps4
  go_upto_region 9 with (first
    | (go_at_call 8
       with_reducible refine (SA.out _ ?_).mono ?_
       focus (exact HE.out.below H0.out)
       rintro e w1 ⟨rfl, hb1⟩
       have H1 := Lib.hid (below_step H0.out hb1)
       have HB1 := Lib.hid (HB0.out.call hb1)
       obtain ⟨d0, d1⟩ := blk2 HB1.out
       clear hb1)
    | (go_at_call 9
       with_reducible refine (SG.out _ ?_ ?_).mono ?_
       focus (exact HD.out.below (Nat.le_refl _) H1.out)
       focus (exact HK.out.below (Nat.le_refl _) H1.out)
       rintro e w2 ⟨rfl, hb2⟩
       have H2 := Lib.hid (below_step H1.out hb2)
       have HB2 := Lib.hid (HB1.out.call hb2)
       obtain ⟨d0, d1⟩ := blk2 HB2.out
       clear hb2)
    | (go_at_call 17
       with_reducible refine (SH.out _ ?_).mono ?_
       focus (exact HT.out.below (Nat.le_refl _) H2.out)
       rintro e w3 ⟨rfl, hb3⟩
       have H3 := Lib.hid (below_step H2.out hb3)
       have HB3 := Lib.hid (HB2.out.call hb3)
       obtain ⟨d0, d1⟩ := blk2 HB3.out
       clear hb3)
    | (go_at_call 18
       with_reducible refine (S4.out _ ?_ ?_ ?_ ?_).mono ?_
       focus (exact HE.out.below H3.out)
       focus (exact HD.out.below (Nat.le_refl _) H3.out)
       focus (exact HK.out.below (Nat.le_refl _) H3.out)
       focus (exact HT.out.below (Nat.le_refl _) H3.out)
       rintro e w4 ⟨R4, er4, A4, N4, c4, hr4, rfl, hN4, hc4, hs4, hb4⟩
       have H4 := Lib.hid (below_step H3.out hb4)
       have HB4 := Lib.hid (HB3.out.call hb4)
       obtain ⟨d0, d1⟩ := blk2 HB4.out
       have HN4 := Lib.hid hN4
       have HR4 := Lib.hid hr4
       have HSa4 := Lib.hid hs4
       have hz4 : N4 = 2 * n := by rw [hN4, (H4X.out _ _ hr4).1, nout_len]
       have hz5 := H4X.out _ _ hr4
       clear hr4 hN4 hc4 hs4
       obtain ⟨rfl, rfl⟩ := hz5
       subst hz4
       clear hb4)
    | (go_at_call 19
       with_reducible refine (SC.out _ ?_).mono ?_
       focus (exact HT.out.below (Nat.le_refl _) H4.out)
       rintro e w5 ⟨A5, c5, rfl, hrev, hb5⟩
       have HRV := Lib.hid hrev
       clear hrev
       have H5 := Lib.hid (below_step H4.out hb5)
       have HW45 := Lib.hid hb5
       clear hb5)
    | (go_at_call 20
       with_reducible refine (HRV.out _ (Below.refl _ _)).mono ?_
       rintro e w6 ⟨rfl, hst, hb6⟩
       have H6 := Lib.hid (below_step H4.out hb6)
       have HB6 := Lib.hid (HB4.out.call hb6)
       obtain ⟨d0, d1⟩ := blk2 HB6.out
       have HT6 := Lib.hid hst
       have HSa6 := Lib.hid (HSa4.out.below (Nat.le_refl _) hb6)
       clear hst hb6)
    | (go_at_call 18
       with_reducible refine (S7.out _ _ _ ?_ ?_ ?_ ?_).mono ?_
       focus (exact HE.out.below H6.out)
       focus (exact HD.out.below (Nat.le_refl _) H6.out)
       focus (exact HK.out.below (Nat.le_refl _) H6.out)
       focus (exact HT6.out)
       rintro e w7 ⟨R7, er7, A7, N7, c7, hr7, rfl, hN7, hc7, hs7, hb7⟩
       obtain ⟨rfl, rfl⟩ := nodes_uniq HR4.out (re_nodes (onto_rev s) hr7)
       obtain rfl : N7 = 2 * n := hN7.trans HN4.out.symm
       have H7 := Lib.hid (below_step H6.out hb7)
       have HB7 := Lib.hid (HB6.out.call hb7)
       obtain ⟨d0, d1⟩ := blk2 HB7.out
       have HSb7 := Lib.hid hs7
       have HSa7 := Lib.hid (HSa6.out.below (Nat.le_refl _) hb7)
       clear hr7 hN7 hc7 hs7
       clear hb7))
  have KS : Hid (∀ w', Below w7.heap.size w7 w' → w'.cell? ⟨w.heap.size, 0, none⟩ = some (.slice NA n nc) ∧ w'.cell? ⟨w.heap.size, 1, none⟩ = some (.slice LA m lc)) := fun w' h => ⟨(HB7.out.call h).cell 0, (HB7.out.call h).cell 1⟩
  go_region_held3 (fun w' => w'.cell? ⟨w.heap.size, 0, none⟩ = some (.slice NA n nc) ∧ w'.cell? ⟨w.heap.size, 1, none⟩ = some (.slice LA m lc)) (first
    | exact KS.out _ (Below.refl _ w7)
    | exact KS.out _ ((Below.refl _ w7).drew)
    | exact KS.out _ hq8
    | exact KS.out _ hq9
    | exact KS.out _ (by (repeat' (first | assumption | exact Below.refl _ _ | exact Below.size (by assumption) | (refine Below.setCell ?_ ?_ _) | (refine Below.alloc ?_ ?_ _) | (refine Below.drew ?_) | (refine below_drewN ?_ _) | (refine Below.trans ?_ (Below.mono ‹Below _ _ _› ?_)) | omega | (simp; done) | (simp; omega) | (simp at *; omega))))) (first
    | (go_at_call 21
       with_reducible refine (SK.out _ _ ?_ ?_ ?_ ?_).mono ?_
       focus (exact HT.out.below (Nat.le_refl _) (below_step H7.out (by (repeat' (first | assumption | exact Below.refl _ _ | exact Below.size (by assumption) | (refine Below.setCell ?_ ?_ _) | (refine Below.alloc ?_ ?_ _) | (refine Below.drew ?_) | (refine below_drewN ?_ _) | (refine Below.trans ?_ (Below.mono ‹Below _ _ _› ?_)) | omega | (simp; done) | (simp; omega) | (simp at *; omega))))))
       focus (first | (simp; done) | (simp; omega))
       focus (first | exact (Blk.new w7 _ _).cell 0 | exact (Blk.drew1 (Blk.new _ _ _)).cell 0)
       focus (first | exact (Blk.new w7 _ _).cell 1 | exact (Blk.drew1 (Blk.new _ _ _)).cell 1)
       rintro e w8 ⟨A8, N8, c8, hN8, rfl, hst8, hb8⟩
       have hq8 : Below w7.heap.size w7 w8 := Below.trans (by (repeat' (first | assumption | exact Below.refl _ _ | exact Below.size (by assumption) | (refine Below.setCell ?_ ?_ _) | (refine Below.alloc ?_ ?_ _) | (refine Below.drew ?_) | (refine below_drewN ?_ _) | (refine Below.trans ?_ (Below.mono ‹Below _ _ _› ?_)) | omega | (simp; done) | (simp; omega) | (simp at *; omega)))) (hb8.mono (by simp))
       have hs8 := hq8.size
       have HT8 := Lib.hid hst8
       have HN8 := Lib.hid hN8
       have H8 := Lib.hid (below_step H7.out hq8)
       clear hst8 hN8)
    | (go_at_call 18
       with_reducible refine (S9.out _ _ _ _ HN8.out ?_ ?_ ?_ ?_).mono ?_
       focus (exact HE.out.below (below_step H8.out (by (repeat' (first | assumption | exact Below.refl _ _ | exact Below.size (by assumption) | (refine Below.setCell ?_ ?_ _) | (refine Below.alloc ?_ ?_ _) | (refine Below.drew ?_) | (refine below_drewN ?_ _) | (refine Below.trans ?_ (Below.mono ‹Below _ _ _› ?_)) | omega | (simp; done) | (simp; omega) | (simp at *; omega))))))
       focus (exact HD.out.below (Nat.le_refl _) (below_step H8.out (by (repeat' (first | assumption | exact Below.refl _ _ | exact Below.size (by assumption) | (refine Below.setCell ?_ ?_ _) | (refine Below.alloc ?_ ?_ _) | (refine Below.drew ?_) | (refine below_drewN ?_ _) | (refine Below.trans ?_ (Below.mono ‹Below _ _ _› ?_)) | omega | (simp; done) | (simp; omega) | (simp at *; omega))))))
       focus (exact HK.out.below (Nat.le_refl _) (below_step H8.out (by (repeat' (first | assumption | exact Below.refl _ _ | exact Below.size (by assumption) | (refine Below.setCell ?_ ?_ _) | (refine Below.alloc ?_ ?_ _) | (refine Below.drew ?_) | (refine below_drewN ?_ _) | (refine Below.trans ?_ (Below.mono ‹Below _ _ _› ?_)) | omega | (simp; done) | (simp; omega) | (simp at *; omega))))))
       focus (exact HT8.out.below (Nat.le_refl _) (by (repeat' (first | assumption | exact Below.refl _ _ | exact Below.size (by assumption) | (refine Below.setCell ?_ ?_ _) | (refine Below.alloc ?_ ?_ _) | (refine Below.drew ?_) | (refine below_drewN ?_ _) | (refine Below.trans ?_ (Below.mono ‹Below _ _ _› ?_)) | omega | (simp; done) | (simp; omega) | (simp at *; omega)))))
       rintro e w9 ⟨R9, er9, A9, N9, c9, hr9, rfl, hN9, hc9, hs9, hb9⟩
       have hr9' := re_nodes (onto_two s) hr9
       obtain ⟨rfl, rfl⟩ := nodes_uniq HR4.out hr9'
       obtain rfl : N9 = 2 * n := hN9.trans HN4.out.symm
       have hq9 : Below w7.heap.size w7 w9 := Below.trans hq8 (Below.trans (by (repeat' (first | assumption | exact Below.refl _ _ | exact Below.size (by assumption) | (refine Below.setCell ?_ ?_ _) | (refine Below.alloc ?_ ?_ _) | (refine Below.drew ?_) | (refine below_drewN ?_ _) | (refine Below.trans ?_ (Below.mono ‹Below _ _ _› ?_)) | omega | (simp; done) | (simp; omega) | (simp at *; omega)))) (hb9.mono (Nat.le_trans hq8.size (by simp))))
       have H9 := Lib.hid (below_step H7.out hq9)
       have HB9 := Lib.hid (HB7.out.call hq9)
       have HSc9 := Lib.hid hs9
       have HSa9 := Lib.hid (HSa7.out.below (Nat.le_refl _) hq9)
       have HSb9 := Lib.hid (HSb7.out.below (Nat.le_refl _) hq9)
       clear hr9 hr9' hN9 hc9 hs9 hb9))
  obtain ⟨d0, d1⟩ := blk2 HB9.out
  go_wp2_with (first
    | (go_at_call 16
       with_reducible refine (sequal_same _ _ _ _ _ _ _ HSa9.out HSb9.out).mono ?_
       rintro e w10 ⟨rfl, hb10⟩
       have H10 := Lib.hid (below_step H9.out hb10)
       have HB10 := Lib.hid (HB9.out.call hb10)
       obtain ⟨d0, d1⟩ := blk2 HB10.out
       have HSa10 := Lib.hid (HSa9.out.below (Nat.le_refl _) hb10)
       have HSc10 := Lib.hid (HSc9.out.below (Nat.le_refl _) hb10)
       clear hb10)
    | (go_at_call 16
       with_reducible refine (sequal_same _ _ _ _ _ _ _ HSa10.out HSc10.out).mono ?_
       rintro e w11 ⟨rfl, hb11⟩
       have H11 := Lib.hid (below_step H10.out hb11)
       have HB11 := Lib.hid (HB10.out.call hb11)
       obtain ⟨d0, d1⟩ := blk2 HB11.out
       clear hb11))
  go_ret
  exact ⟨rfl, H11.out⟩
end Go.Proofs.YtfgakaielfekoaaGreatDoor

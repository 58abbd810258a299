/- The states of a report are valid, on both sides. -/
import Derived.Test.YtfgakaielfekoaaGreatDoorStv
import Derived.Test.YtfgakaielfekoaaGreatDoorStw
import Derived.Test.YtfgakaielfekoaaGreatDoorNetW
import Derived.Test.YtfgakaielfekoaaGreatDoorRpn
namespace Go.Proofs.YtfgakaielfekoaaGreatDoor
open Go.RowKit
set_option linter.unusedVariables false
set_option linter.unusedSimpArgs false

theorem boolOf_not {p : Prop} : (!(boolOf p)) = true ↔ ¬ p := by
  by_cases h : p
  · rw [boolOf_true h]; simp [h]
  · rw [boolOf_false h]; simp [h]
theorem state_at (NA LA : Option Addr) (n nc m lc : Nat) (D : Nds) (K : Lks) (hz : NetSz D n K m) (hn : netP D n K m) (S : Sts) (k : Nat) (hs : S.VN k ≤ 2000 ∧ S.PN k ≤ 2000 ∧ S.SN k ≤ 2000 ∧ S.ON k ≤ 2000) (w : World) (hD : NdIn w NA n D) (hK : LkIn w LA m K) (hL : StL w S k) :
    (Calls Tryz.prog 106 #[.agg #[.slice NA n nc, .slice LA m lc], .agg #[.slice (S.VA k) (S.VN k) (S.VC k), .slice (S.PA k) (S.PN k) (S.PC k), .slice (S.SA k) (S.SN k) (S.SC k), .slice (S.OA k) (S.ON k) (S.OC k)]] w fun e w' => e = .returned (.bool (boolOf (stP D n K m S k))) ∧ Below w.heap.size w w') ∧
    (Calls Tryz.prog 25 #[.agg #[.slice NA n nc, .slice LA m lc], .agg #[.slice (S.VA k) (S.VN k) (S.VC k), .slice (S.PA k) (S.PN k) (S.PC k), .slice (S.SA k) (S.SN k) (S.SC k), .slice (S.OA k) (S.ON k) (S.OC k)]] w fun e w' => e = .returned (.bool (boolOf (stP D n K m S k))) ∧ Below w.heap.size w w') := by
  have a := sstate NA LA n nc m lc D K hz (S.VA k) (S.VN k) (S.VC k) (S.V k) (S.PA k) (S.PN k) (S.PC k) (S.P k) (S.SA k) (S.SN k) (S.SC k) (S.S k) (S.OA k) (S.ON k) (S.OC k) (S.O k) hs w hD hK hL.1 hL.2.1 hL.2.2.1 hL.2.2.2
  have b := rstate NA LA n nc m lc D K hz (S.VA k) (S.VN k) (S.VC k) (S.V k) (S.PA k) (S.PN k) (S.PC k) (S.P k) (S.SA k) (S.SN k) (S.SC k) (S.S k) (S.OA k) (S.ON k) (S.OC k) (S.O k) hs hn w hD hK hL.1 hL.2.1 hL.2.2.1 hL.2.2.2
  have e : (netP D n K m ∧ stQ D n K m (S.VN k) (S.PN k) (S.SN k) (S.ON k) (S.V k) (S.P k) (S.S k) (S.O k)) = stP D n K m S k := by
    rw [stQ_of]
    exact propext ⟨fun h => h.2, fun h => ⟨hn, h⟩⟩
  rw [e] at a
  rw [stQ_of] at b
  exact ⟨a, b⟩
set_option maxRecDepth 100000 in
theorem p_states (NA LA : Option Addr) (n nc m lc : Nat) (D : Nds) (K : Lks) (hz : NetSz D n K m) (hn : netP D n K m) (S : Sts) (k : Nat) (hs : S.VN k ≤ 2000 ∧ S.PN k ≤ 2000 ∧ S.SN k ≤ 2000 ∧ S.ON k ≤ 2000) (f : Bool) (hf : f = !(boolOf (stP D n K m S k))) (g : Nat) (w : World) (hD : NdIn w NA n D) (hK : LkIn w LA m K) (hL : StL w S k) (hB : Blk w g 25 #[.slice NA n nc, .slice LA m lc]) :
    Calls Tryz.prog 105 #[.agg #[.slice (S.VA k) (S.VN k) (S.VC k), .slice (S.PA k) (S.PN k) (S.PC k), .slice (S.SA k) (S.SN k) (S.SC k), .slice (S.OA k) (S.ON k) (S.OC k)], .pointer (some ⟨g, 0, none⟩)] w fun e w' => e = .returned (.bool f) ∧ Below w.heap.size w w' := by
  have SV := Lib.hid fun w hD hK hL => (state_at NA LA n nc m lc D K hz hn S k hs w hD hK hL).1
  have HD := Lib.hid hD
  have HK := Lib.hid hK
  have HL := Lib.hid hL
  have hg := hB.lt
  obtain ⟨d0, d1⟩ := blk2 hB
  have H0 : Hid (Below w.heap.size w (w.alloc (Obj.cells #[.slice (S.VA k) (S.VN k) (S.VC k), .slice (S.PA k) (S.PN k) (S.PC k), .slice (S.SA k) (S.SN k) (S.SC k), .slice (S.OA k) (S.ON k) (S.OC k)] 49))) := (Below.refl _ w).alloc (Nat.le_refl _) _
  generalize boolOf (stP D n K m S k) = b at SV hf
  have HF := Lib.hid hf
  clear hz hn hs hD hK hL hB hf
  go_enter Tryz.func105, Tryz.ntmps105
  go_wp2_with (first
    | (go_at_call 106
       with_reducible refine (SV.out _ ?_ ?_ ?_).mono ?_
       focus (exact HD.out.below (Nat.le_refl _) H0.out)
       focus (exact HK.out.below (Nat.le_refl _) H0.out)
       focus (exact HL.out.below (Nat.le_refl _) H0.out)
       rintro e w1 ⟨rfl, hb1⟩
       have H1 := Lib.hid (below_step H0.out hb1)
       clear hb1))
  go_ret
  exact ⟨ret_bool HF.out.symm, H1.out⟩
set_option maxRecDepth 100000 in
set_option maxHeartbeats 2000000 in
theorem find_states (NA LA : Option Addr) (n nc m lc : Nat) (D : Nds) (K : Lks) (hz : NetSz D n K m) (hn : netP D n K m) (A : Option Addr) (s c k : Nat) (S : Sts) (g : Nat) (w : World) (h2 : s ≤ 2000) (hs : ∀ k, k < s → S.VN k ≤ 2000 ∧ S.PN k ≤ 2000 ∧ S.SN k ≤ 2000 ∧ S.ON k ≤ 2000) (hD : NdIn w NA n D) (hK : LkIn w LA m K) (ht : StIn w A s S) (hB : Blk w g 25 #[.slice NA n nc, .slice LA m lc]) (hk : FirstAt (fun j => !(boolOf (stP D n K m S j))) s k) (v : Int) (hv : v = if k < s then (k : Int) else -1) :
    Calls Tryz.prog 66 #[.slice A s c, .func (.func 105) #[] #[.pointer (some ⟨g, 0, none⟩)]] w fun e w' => e = .returned (.int .i64 v) ∧ Below w.heap.size w w' := by
  have HT := Lib.hid ht
  have HKF := Lib.hid hk
  have H2 := Lib.hid h2
  have HV := Lib.hid hv
  have HZ := Lib.hid hz
  have HN := Lib.hid hn
  have HS := Lib.hid hs
  have HD := Lib.hid hD
  have HK := Lib.hid hK
  have HB := Lib.hid hB
  clear ht hk h2 hv hz hn hs hD hK hB
  go_enter Tryz.func66, Tryz.ntmps66
  go_wp2_with fail
  go_loopw [8] (fun u wr => ∃ i : Nat, Hid (i ≤ s ∧ i ≤ k) ∧ u = .int .i64 i ∧ Hid (Below w.heap.size w wr)) (fun u _ => s - (RowKit.intOf u).toNat)
  case atStart => exact ⟨0, ⟨Nat.zero_le _, Nat.zero_le _⟩, rfl, Below.refl _ _⟩
  case round =>
    obtain ⟨i, Hi, rfl, HW⟩ := hrel
    by_cases hlt : i < s
    · have T0 : decide ((i : Int) < (s : Int)) = true := by simp <;> omega
      have T0' : decide (i < s) = true := decide_eq_true hlt
      obtain ⟨i', hi'⟩ : ∃ z, z = i + 1 := ⟨_, rfl⟩
      have x0 : IntKind.i64.wrap ((i : Int) + 1) = (i' : Int) := by have := H2.out; rw [IntKind.wrap_i64]; omega
      have HI' : Hid (i' ≤ s) := by show i' ≤ s; omega
      have HMS : Hid (s - (RowKit.intOf (Value.int .i64 (i' : Int))).toNat < s - (RowKit.intOf (Value.int .i64 (i : Int))).toNat) := by show _ < _; simp [RowKit.intOf]; omega
      have k0 : (0 : Int) ≤ (i : Int) := by omega
      have k1 : (i : Int) < (s : Int) := by omega

      obtain ⟨b, off, rfl, hb, hC, hL⟩ := (HT.out.below (Nat.le_refl _) HW.out).at hlt
      have c0 := hC 0 _ rfl
      have c1 := hC 1 _ rfl
      have c2 := hC 2 _ rfl
      have c3 := hC 3 _ rfl
      simp only [Nat.add_zero] at c0
      have HL := Lib.hid hL
      have HSi := Lib.hid (HS.out i hlt)
      have HKr := Lib.hid (HK.out.below (Nat.le_refl _) HW.out)
      have HDr := Lib.hid (HD.out.below (Nat.le_refl _) HW.out)
      have HBr := Lib.hid (HB.out.call HW.out)
      clear hC hL
      rcases first_at HKF.out hlt Hi.out.2 with ⟨hp, hik⟩ | ⟨hp, hik⟩
      · have KK := Lib.hid (p_states NA LA n nc m lc D K HZ.out HN.out S i HSi.out true hp.symm g wr HDr.out HKr.out HL.out HBr.out)
        have HR : Hid ((i : Int) = v) := by show (i : Int) = v; rw [HV.out, hik, if_pos (by omega)]
        clear hi' hp hik hlt
        go_wp2_with (first | (go_at_call 105; (with_reducible refine (KK.out).mono ?_); rintro e w1 ⟨rfl, hb1⟩; obtain ⟨hc1, hf1⟩ := bcell hb1; have hz1 := hb1.size; (try simp at hz1); (try simp only [heap_drew, World.heap_drewN] at hz1); (try simp only [heap_drew, World.heap_drewN] at hc1); (try simp only [heap_drew, World.heap_drewN] at hf1); (try have hs1 := Nat.lt_of_succ_le hz1); (try have hs2 := Nat.lt_of_succ_lt hs1); (try have y0 : w.heap.size < w1.heap.size := by omega); (try have y1 : w.heap.size + 1 < w1.heap.size := by omega); (try have y2 : w.heap.size + 2 < w1.heap.size := by omega)))
        go_ret
        refine ⟨ret_int HR.out, ?_⟩
        have := HW.out
        (repeat' (first | assumption | exact Below.refl _ _ | exact Below.size (by assumption) | (refine Below.setCell ?_ ?_ _) | (refine Below.alloc ?_ ?_ _) | (refine Below.drew ?_) | (refine below_drewN ?_ _) | (refine Below.trans ?_ (Below.mono ‹Below _ _ _› ?_)) | omega | (simp; done) | (simp; omega) | (simp at *; omega)))
      · have KK := Lib.hid (p_states NA LA n nc m lc D K HZ.out HN.out S i HSi.out false hp.symm g wr HDr.out HKr.out HL.out HBr.out)
        have HI2 : Hid (i' ≤ s ∧ i' ≤ k) := by show _ ∧ _; omega
        clear hi' hp hik hlt
        go_wp2_with (first | (go_at_call 105; (with_reducible refine (KK.out).mono ?_); rintro e w1 ⟨rfl, hb1⟩; obtain ⟨hc1, hf1⟩ := bcell hb1; have hz1 := hb1.size; (try simp at hz1); (try simp only [heap_drew, World.heap_drewN] at hz1); (try simp only [heap_drew, World.heap_drewN] at hc1); (try simp only [heap_drew, World.heap_drewN] at hf1); (try have hs1 := Nat.lt_of_succ_le hz1); (try have hs2 := Nat.lt_of_succ_lt hs1); (try have y0 : w.heap.size < w1.heap.size := by omega); (try have y1 : w.heap.size + 1 < w1.heap.size := by omega); (try have y2 : w.heap.size + 2 < w1.heap.size := by omega)))
        go_roundw
        case rel => exact ⟨i', HI2, rfl, by have := HW.out; (repeat' (first | assumption | exact Below.refl _ _ | exact Below.size (by assumption) | (refine Below.setCell ?_ ?_ _) | (refine Below.alloc ?_ ?_ _) | (refine Below.drew ?_) | (refine below_drewN ?_ _) | (refine Below.trans ?_ (Below.mono ‹Below _ _ _› ?_)) | omega | (simp; done) | (simp; omega) | (simp at *; omega)))⟩
        case measure => exact HMS.out
    · have e : i = s := by have := Hi.out; omega
      have HR : Hid ((-1 : Int) = v) := by show (-1 : Int) = v; rw [HV.out, if_neg (by have := Hi.out; omega)]
      have T0 : decide ((i : Int) < (s : Int)) = false := by simp <;> omega
      have T0' : decide (i < s) = false := decide_eq_false hlt
      clear e hlt
      go_wp2_with fail
      go_ret
      exact ⟨ret_int HR.out, HW.out⟩
theorem has_states (NA LA : Option Addr) (n nc m lc : Nat) (D : Nds) (K : Lks) (hz : NetSz D n K m) (hn : netP D n K m) (A : Option Addr) (s c : Nat) (S : Sts) (g : Nat) (w : World) (h2 : s ≤ 2000) (hs : ∀ k, k < s → S.VN k ≤ 2000 ∧ S.PN k ≤ 2000 ∧ S.SN k ≤ 2000 ∧ S.ON k ≤ 2000) (hD : NdIn w NA n D) (hK : LkIn w LA m K) (ht : StIn w A s S) (hB : Blk w g 25 #[.slice NA n nc, .slice LA m lc]) (f : Bool) (hf : f = true ↔ ∃ j, j < s ∧ (fun j => !(boolOf (stP D n K m S j))) j = true) :
    Calls Tryz.prog 23 #[.slice A s c, .func (.func 105) #[] #[.pointer (some ⟨g, 0, none⟩)]] w fun e w' => e = .returned (.bool f) ∧ Below w.heap.size w w' := by
  obtain ⟨k, hk⟩ := first_ex (fun j => !(boolOf (stP D n K m S j))) s
  have hany := first_any hk
  have SI := Lib.hid (find_states NA LA n nc m lc D K hz hn A s c k S g w h2 hs hD hK ht hB hk _ rfl)
  by_cases hkn : k < s
  · have hft : f = true := hf.2 (hany.1 hkn)
    rw [if_pos hkn] at SI
    have t : decide ((0 : Int) ≤ (k : Int)) = true := decide_eq_true (by omega)
    subst hft
    clear hk hany hkn hf ht h2 hz hn hs hD hK hB
    go_enter Tryz.func23, Tryz.ntmps23
    go_wp2_with (first | (go_at_call 66; (with_reducible refine (SI.out).mono ?_); rintro e w1 ⟨rfl, hb1⟩; obtain ⟨hc1, hf1⟩ := bcell hb1; have hz1 := hb1.size; (try simp at hz1); (try simp only [heap_drew, World.heap_drewN] at hz1); (try simp only [heap_drew, World.heap_drewN] at hc1); (try simp only [heap_drew, World.heap_drewN] at hf1); (try have hs1 := Nat.lt_of_succ_le hz1); (try have hs2 := Nat.lt_of_succ_lt hs1); (try have y0 : w.heap.size < w1.heap.size := by omega); (try have y1 : w.heap.size + 1 < w1.heap.size := by omega); (try have y2 : w.heap.size + 2 < w1.heap.size := by omega)))
    go_ret
    refine ⟨rfl, ?_⟩
    (repeat' (first | assumption | exact Below.refl _ _ | exact Below.size (by assumption) | (refine Below.setCell ?_ ?_ _) | (refine Below.alloc ?_ ?_ _) | (refine Below.drew ?_) | (refine below_drewN ?_ _) | (refine Below.trans ?_ (Below.mono ‹Below _ _ _› ?_)) | omega | (simp; done) | (simp; omega) | (simp at *; omega)))
  · have hft : f = false := by
      cases f with
      | false => rfl
      | true => exact absurd (hany.2 (hf.1 rfl)) hkn
    rw [if_neg hkn] at SI
    subst hft
    clear hk hany hkn hf ht h2 hz hn hs hD hK hB
    go_enter Tryz.func23, Tryz.ntmps23
    go_wp2_with (first | (go_at_call 66; (with_reducible refine (SI.out).mono ?_); rintro e w1 ⟨rfl, hb1⟩; obtain ⟨hc1, hf1⟩ := bcell hb1; have hz1 := hb1.size; (try simp at hz1); (try simp only [heap_drew, World.heap_drewN] at hz1); (try simp only [heap_drew, World.heap_drewN] at hc1); (try simp only [heap_drew, World.heap_drewN] at hf1); (try have hs1 := Nat.lt_of_succ_le hz1); (try have hs2 := Nat.lt_of_succ_lt hs1); (try have y0 : w.heap.size < w1.heap.size := by omega); (try have y1 : w.heap.size + 1 < w1.heap.size := by omega); (try have y2 : w.heap.size + 2 < w1.heap.size := by omega)))
    go_ret
    refine ⟨rfl, ?_⟩
    (repeat' (first | assumption | exact Below.refl _ _ | exact Below.size (by assumption) | (refine Below.setCell ?_ ?_ _) | (refine Below.alloc ?_ ?_ _) | (refine Below.drew ?_) | (refine below_drewN ?_ _) | (refine Below.trans ?_ (Below.mono ‹Below _ _ _› ?_)) | omega | (simp; done) | (simp; omega) | (simp at *; omega)))
set_option maxRecDepth 100000 in
set_option maxHeartbeats 2000000 in
theorem tstates (NA LA : Option Addr) (n nc m lc : Nat) (D : Nds) (K : Lks) (hz : NetSz D n K m) (A : Option Addr) (s c : Nat) (S : Sts) (h2 : s ≤ 2000) (hs : ∀ k, k < s → S.VN k ≤ 2000 ∧ S.PN k ≤ 2000 ∧ S.SN k ≤ 2000 ∧ S.ON k ≤ 2000) (w : World) (hD : NdIn w NA n D) (hK : LkIn w LA m K) (ht : StIn w A s S) :
    Calls Tryz.prog 62 #[.agg #[.slice NA n nc, .slice LA m lc], .slice A s c] w fun e w' => e = .returned (.bool (boolOf (stsP D n K m S s))) ∧ Below w.heap.size w w' := by
  have HD := Lib.hid hD
  have HK := Lib.hid hK
  have HT := Lib.hid ht
  have H0 : Hid (Below w.heap.size w (w.alloc (Obj.cells #[.slice NA n nc, .slice LA m lc] 25))) := (Below.refl _ w).alloc (Nat.le_refl _) _
  have HB0 := Lib.hid (Blk.new w 25 #[.slice NA n nc, .slice LA m lc])
  have sva := fun w hD hK => nvalid NA LA n nc m lc D K hz w hD hK
  obtain ⟨Z, hZ⟩ : ∃ Z, Z = boolOf (stsP D n K m S s) := ⟨_, rfl⟩
  rw [← hZ]
  by_cases g0 : netP D n K m
  case neg =>
    obtain rfl : Z = false := by rw [hZ]; exact boolOf_false fun h => g0 h.1
    rw [boolOf_false g0] at sva
    have SVA := Lib.hid sva
    clear sva g0 hZ hz h2 hs hD hK ht
    go_enter Tryz.func62, Tryz.ntmps62
    go_wp2_with (first
      | (go_at_call 90
         with_reducible refine (SVA.out _ ?_ ?_).mono ?_
         focus (exact HD.out.below (Nat.le_refl _) H0.out)
         focus (exact HK.out.below (Nat.le_refl _) H0.out)
         rintro e w1 ⟨rfl, hb1⟩
         have H1 := Lib.hid (below_step H0.out hb1)
         clear hb1))
    go_ret
    exact ⟨rfl, H1.out⟩
  rw [boolOf_true g0] at sva
  have SVA := Lib.hid sva
  have SH := Lib.hid fun g w hD hK ht hB f hf => has_states NA LA n nc m lc D K hz g0 A s c S g w h2 hs hD hK ht hB f hf
  by_cases g1 : ∃ j, j < s ∧ (fun j => !(boolOf (stP D n K m S j))) j = true
  case pos =>
    obtain rfl : Z = false := by rw [hZ]; obtain ⟨j, hj, hp⟩ := g1; exact boolOf_false fun h => boolOf_not.1 hp (h.2 j hj)
    have SH := Lib.hid fun g w hD hK ht hB => SH.out g w hD hK ht hB true ⟨fun _ => g1, fun _ => rfl⟩
    clear sva g0 g1 hZ hz h2 hs hD hK ht
    go_enter Tryz.func62, Tryz.ntmps62
    go_wp2_with (first
      | (go_at_call 90
         with_reducible refine (SVA.out _ ?_ ?_).mono ?_
         focus (exact HD.out.below (Nat.le_refl _) H0.out)
         focus (exact HK.out.below (Nat.le_refl _) H0.out)
         rintro e w1 ⟨rfl, hb1⟩
         have H1 := Lib.hid (below_step H0.out hb1)
         have HB1 := Lib.hid (HB0.out.call hb1)
         clear hb1)
      | (go_at_call 23
         with_reducible refine (SH.out _ _ ?_ ?_ ?_ ?_).mono ?_
         focus (exact HD.out.below (Nat.le_refl _) H1.out)
         focus (exact HK.out.below (Nat.le_refl _) H1.out)
         focus (exact HT.out.below (Nat.le_refl _) H1.out)
         focus (exact HB1.out)
         rintro e w2 ⟨rfl, hb2⟩
         have H2 := Lib.hid (below_step H1.out hb2)
         clear hb2))
    go_ret
    exact ⟨rfl, H2.out⟩
  obtain rfl : Z = true := by
    rw [hZ]
    exact boolOf_true ⟨g0, fun j hj => Classical.byContradiction fun h => g1 ⟨j, hj, boolOf_not.2 h⟩⟩
  have SH := Lib.hid fun g w hD hK ht hB => SH.out g w hD hK ht hB false ⟨fun h => (by cases h), fun h => absurd h g1⟩
  clear sva g0 g1 hZ hz h2 hs hD hK ht
  go_enter Tryz.func62, Tryz.ntmps62
  go_wp2_with (first
    | (go_at_call 90
       with_reducible refine (SVA.out _ ?_ ?_).mono ?_
       focus (exact HD.out.below (Nat.le_refl _) H0.out)
       focus (exact HK.out.below (Nat.le_refl _) H0.out)
       rintro e w1 ⟨rfl, hb1⟩
       have H1 := Lib.hid (below_step H0.out hb1)
       have HB1 := Lib.hid (HB0.out.call hb1)
       clear hb1)
    | (go_at_call 23
       with_reducible refine (SH.out _ _ ?_ ?_ ?_ ?_).mono ?_
       focus (exact HD.out.below (Nat.le_refl _) H1.out)
       focus (exact HK.out.below (Nat.le_refl _) H1.out)
       focus (exact HT.out.below (Nat.le_refl _) H1.out)
       focus (exact HB1.out)
       rintro e w2 ⟨rfl, hb2⟩
       have H2 := Lib.hid (below_step H1.out hb2)
       clear hb2))
  go_ret
  exact ⟨rfl, H2.out⟩
set_option maxRecDepth 100000 in
set_option maxHeartbeats 4000000 in
theorem rstates (NA LA : Option Addr) (n nc m lc : Nat) (D : Nds) (K : Lks) (hz : NetSz D n K m) (A : Option Addr) (s c : Nat) (S : Sts) (h2 : s ≤ 2000) (hs : ∀ k, k < s → S.VN k ≤ 2000 ∧ S.PN k ≤ 2000 ∧ S.SN k ≤ 2000 ∧ S.ON k ≤ 2000) (w : World) (hD : NdIn w NA n D) (hK : LkIn w LA m K) (ht : StIn w A s S) (v : Int) (hv : (stsP D n K m S s → v = 0) ∧ (¬ stsP D n K m S s → v = 1)) :
    Calls Tryz.prog 69 #[.agg #[.slice NA n nc, .slice LA m lc], .slice A s c] w fun e w' => e = .returned (.int .i64 v) ∧ Below w.heap.size w w' := by
  have HD := Lib.hid hD
  have HK := Lib.hid hK
  have HT := Lib.hid ht
  have HV := Lib.hid hv
  have HS := Lib.hid hs
  have H2S := Lib.hid h2
  have HZ := Lib.hid hz
  have H0 : Hid (Below w.heap.size w (w.alloc (Obj.cells #[.slice NA n nc, .slice LA m lc] 25))) := (Below.refl _ w).alloc (Nat.le_refl _) _
  have HB0 := Lib.hid (Blk.new w 25 #[.slice NA n nc, .slice LA m lc])
  have sva := fun w hD hK => wvalidN NA LA n nc m lc D K hz w hD hK
  by_cases g0 : netP D n K m
  case neg =>
    obtain rfl : v = 1 := hv.2 fun h => g0 h.1
    rw [boolOf_false g0] at sva
    have SVA := Lib.hid sva
    clear sva g0 hz h2 hs hD hK ht hv
    go_enter Tryz.func69, Tryz.ntmps69
    go_wp2_with (first
      | (go_at_call 22
         with_reducible refine (SVA.out _ ?_ ?_).mono ?_
         focus (exact HD.out.below (Nat.le_refl _) H0.out)
         focus (exact HK.out.below (Nat.le_refl _) H0.out)
         rintro e w1 ⟨rfl, hb1⟩
         have H1 := Lib.hid (below_step H0.out hb1)
         clear hb1))
    go_ret
    exact ⟨rfl, H1.out⟩
  rw [boolOf_true g0] at sva
  have SVA := Lib.hid sva
  have HNP := Lib.hid g0
  clear sva g0 hz h2 hs hD hK ht hv
  go_enter Tryz.func69, Tryz.ntmps69
  go_wp2_with (first
    | (go_at_call 22
       with_reducible refine (SVA.out _ ?_ ?_).mono ?_
       focus (exact HD.out.below (Nat.le_refl _) H0.out)
       focus (exact HK.out.below (Nat.le_refl _) H0.out)
       rintro e w1 ⟨rfl, hb1⟩
       have H1 := Lib.hid (below_step H0.out hb1)
       have HB1 := Lib.hid (HB0.out.call hb1)
       clear hb1))
  generalize hgw : w.heap.size = gw at HB1
  clear HB0
  go_loopw [5] (fun u wr => ∃ i : Nat, Hid (i ≤ s) ∧ u = .int .i64 i ∧ Hid (∀ j, j < i → stP D n K m S j) ∧ Hid (Below w1.heap.size w1 wr)) (fun u _ => s - (RowKit.intOf u).toNat)
  case atStart => exact ⟨0, Nat.zero_le _, rfl, fun j hj => absurd hj (Nat.not_lt_zero _), Below.refl _ _⟩
  case round =>
    obtain ⟨i, Hi, rfl, HG, HW⟩ := hrel
    have HWW := Lib.hid (below_step H1.out HW.out)
    have HBr := Lib.hid (HB1.out.call HW.out)
    obtain ⟨d0, d1⟩ := blk2 HBr.out
    by_cases hlt : i < s
    · have T0 : decide ((i : Int) < (s : Int)) = true := by simp <;> omega
      have T0' : decide (i < s) = true := decide_eq_true hlt
      obtain ⟨i', hi'⟩ : ∃ z, z = i + 1 := ⟨_, rfl⟩
      have x0 : IntKind.i64.wrap ((i : Int) + 1) = (i' : Int) := by have := H2S.out; rw [IntKind.wrap_i64]; omega
      have HI' : Hid (i' ≤ s) := by show i' ≤ s; omega
      have HMS : Hid (s - (RowKit.intOf (Value.int .i64 (i' : Int))).toNat < s - (RowKit.intOf (Value.int .i64 (i : Int))).toNat) := by show _ < _; simp [RowKit.intOf]; omega
      have k0 : (0 : Int) ≤ (i : Int) := by omega
      have k1 : (i : Int) < (s : Int) := by omega

      obtain ⟨b, off, rfl, hb, hC, hL⟩ := (HT.out.below (Nat.le_refl _) HWW.out).at hlt
      have c0 := hC 0 _ rfl
      have c1 := hC 1 _ rfl
      have c2 := hC 2 _ rfl
      have c3 := hC 3 _ rfl
      simp only [Nat.add_zero] at c0
      have HL := Lib.hid hL
      have HKr := Lib.hid (HK.out.below (Nat.le_refl _) HWW.out)
      have HDr := Lib.hid (HD.out.below (Nat.le_refl _) HWW.out)
      have sv := fun w hD hK hL => (state_at NA LA n nc m lc D K HZ.out HNP.out S i (HS.out i hlt) w hD hK hL).2
      have HST : Hid (stP D n K m S i → ∀ j, j < i' → stP D n K m S j) := fun h j hj => by
        rcases Nat.lt_or_ge j i with g | g
        · exact HG.out j g
        · have : j = i := by omega
          rw [this]; exact h
      have HVF : Hid (¬ stP D n K m S i → v = 1) := fun h => HV.out.2 fun g => h (g.2 i hlt)
      clear hC hL hi' hlt
      by_cases g1 : stP D n K m S i
      case neg =>
        obtain rfl : v = 1 := HVF.out g1
        rw [boolOf_false g1] at sv
        have SV := Lib.hid sv
        clear sv g1
        go_wp2_with fail
        go_region_with (first
          | (go_at_call 25
             with_reducible refine (SV.out _ ?_ ?_ ?_).mono ?_
             focus (exact HDr.out.below (Nat.le_refl _) ((Below.refl _ wr).drew))
             focus (exact HKr.out.below (Nat.le_refl _) ((Below.refl _ wr).drew))
             focus (exact HL.out.below (Nat.le_refl _) ((Below.refl _ wr).drew))
             rintro e w2 ⟨rfl, hb2⟩
             have H2 := Lib.hid (below_step HWW.out (((Below.refl _ wr).drew).trans hb2))
             have H3 := Lib.hid (below_step HW.out (((Below.refl _ wr).drew).trans hb2))
             clear hb2))
        all_goals (go_wp2_with fail; go_ret; first | exact ⟨rfl, H2.out⟩ | (subst hgw; exact ⟨rfl, H2.out⟩))
      have HGD := Lib.hid (HST.out g1)
      rw [boolOf_true g1] at sv
      have SV := Lib.hid sv
      clear sv g1
      go_wp2_with fail
      go_region_with (first
        | (go_at_call 25
           with_reducible refine (SV.out _ ?_ ?_ ?_).mono ?_
           focus (exact HDr.out.below (Nat.le_refl _) ((Below.refl _ wr).drew))
           focus (exact HKr.out.below (Nat.le_refl _) ((Below.refl _ wr).drew))
           focus (exact HL.out.below (Nat.le_refl _) ((Below.refl _ wr).drew))
           rintro e w2 ⟨rfl, hb2⟩
           have H2 := Lib.hid (below_step HWW.out (((Below.refl _ wr).drew).trans hb2))
           have H3 := Lib.hid (below_step HW.out (((Below.refl _ wr).drew).trans hb2))
           clear hb2))
      all_goals (go_wp2_with fail; go_roundw; (case rel => exact ⟨i', HI', rfl, HGD.out, H3.out⟩); (case measure => exact HMS.out))
    · have T0 : decide ((i : Int) < (s : Int)) = false := by simp <;> omega
      have T0' : decide (i < s) = false := decide_eq_false hlt
      have hin : i = s := by have := Hi.out; omega

      obtain rfl : v = 0 := HV.out.1 ⟨HNP.out, fun j hj => HG.out j (by omega)⟩
      clear hin hlt
      go_wp2_with fail
      go_ret
      first
      | exact ⟨rfl, HWW.out⟩
      | (subst hgw; exact ⟨rfl, HWW.out⟩)
end Go.Proofs.YtfgakaielfekoaaGreatDoor

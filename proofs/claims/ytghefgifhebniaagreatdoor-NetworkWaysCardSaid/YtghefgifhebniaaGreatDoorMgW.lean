/- Merged texts of these proofs: NAx, NEq, AwL, RRe, RNm, RWy, LWy, OpWy. -/
import Derived.Test.YtghefgifhebniaaGreatDoorMgJ
import Derived.Test.YtghefgifhebniaaGreatDoorMgE
import Derived.Test.YtghefgifhebniaaGreatDoorNetE
import Derived.Test.YtghefgifhebniaaGreatDoorNPr
import Derived.Test.YtghefgifhebniaaGreatDoorDgR
import Derived.Test.YtghefgifhebniaaGreatDoorMgD
import Derived.Test.YtghefgifhebniaaGreatDoorMgC
import Derived.BigRegion
import Derived.Test.YtghefgifhebniaaGreatDoorNetW
import Derived.Test.YtghefgifhebniaaGreatDoorRows
import Derived.Test.YtghefgifhebniaaGreatDoorStay
import Derived.Test.YtghefgifhebniaaGreatDoorEnv
import Derived.LaidMore
import Derived.Lay
import Derived.Stop.Joined
import Derived.Stop.LaidErr
import Derived.Lib.LaidTab
namespace Go.Proofs.YtghefgifhebniaaGreatDoor
open Go.RowKit Go.Sort
set_option linter.unusedVariables false
set_option linter.unusedSimpArgs false

def exA : Ndr := ⟨⟨#[97]⟩, 1, 0, 0, 1000, 3000, [(0, 0), (2000, 1500000)], false, 0⟩
def exO : Ndr := ⟨⟨#[111]⟩, 3, 0, 50000, 800, 2000, [], false, 0⟩
def exP : Lkr := ⟨⟨#[112]⟩, ⟨#[97]⟩, ⟨#[111]⟩, 1, 50000, 1000, 900, ⟨#[99, 51, 48, 48]⟩, 0, 0, []⟩
def ex1 : List UInt8 := [109, 97, 110, 104, 111, 108, 101, 32, 97, 32, 48, 32, 48, 32, 49, 48, 48, 48, 32, 51, 48, 48, 48, 32, 48, 58, 48, 32, 50, 48, 48, 48, 58, 49, 53, 48, 48, 48, 48, 48]
def ex2 : List UInt8 := [111, 117, 116, 102, 97, 108, 108, 32, 111, 32, 48, 32, 53, 48, 48, 48, 48, 32, 56, 48, 48, 32, 50, 48, 48, 48]
def ex3 : List UInt8 := [112, 105, 112, 101, 32, 112, 32, 97, 32, 111, 32, 53, 48, 48, 48, 48, 32, 49, 48, 48, 48, 32, 57, 48, 48, 32, 99, 51, 48, 48]
def exS : ByteArray := ⟨(ex1 ++ [10] ++ (ex2 ++ [10] ++ (ex3 ++ [10]))).toArray⟩
theorem num_near {v : Int} (h : near v) : numOK v := atoi_itoa h.1 h.2
theorem near_of {v : Int} (h1 : -1000000 ≤ v) (h2 : v ≤ 10000000) : near v := by unfold near; omega
theorem tabA : tabT [(0, 0), (2000, 1500000)] := by
  refine ⟨by decide, by decide, fun k hk => ?_⟩
  have hk2 : k < 2 := hk
  match k, hk2 with
  | 0, _ => unfold goodAt inB; decide
  | 1, _ => unfold goodAt inB; decide
theorem is_exA : IsNd ex1 exA := ⟨⟨⟨by decide, by decide, by decide⟩, num_near (near_of (by decide) (by decide)), num_near (near_of (by decide) (by decide)), num_near (near_of (by decide) (by decide)), num_near (near_of (by decide) (by decide)), .inl ⟨rfl, tabA, rfl, rfl⟩⟩, by kernel_rfl⟩
theorem is_exO : IsNd ex2 exO := ⟨⟨⟨by decide, by decide, by decide⟩, num_near (near_of (by decide) (by decide)), num_near (near_of (by decide) (by decide)), num_near (near_of (by decide) (by decide)), num_near (near_of (by decide) (by decide)), .inr (.inr ⟨rfl, rfl, rfl, rfl⟩)⟩, by kernel_rfl⟩
theorem is_exP : IsLk ex3 exP := ⟨⟨⟨by decide, by decide, by decide⟩, ⟨by decide, by decide, by decide⟩, ⟨by decide, by decide, by decide⟩, num_near (near_of (by decide) (by decide)), .inl ⟨rfl, num_near (near_of (by decide) (by decide)), num_near (near_of (by decide) (by decide)), ⟨by decide, by decide, by decide⟩, rfl, rfl, rfl⟩⟩, by kernel_rfl⟩
theorem runs_ex : Runs [] [] (rln exS.data.toList) [exA, exO] [exP] := by
  have e : rln exS.data.toList = [ex1 ++ [10], ex2 ++ [10], ex3 ++ [10]] := by decide
  rw [e]
  exact .cons (.inl ⟨ex1, exA, rfl, is_exA, rfl, rfl, rfl⟩) (.cons (.inl ⟨ex2, exO, rfl, is_exO, rfl, rfl, rfl⟩) (.cons (.inr ⟨ex3, exP, rfl, is_exP, rfl, rfl⟩) (.nil _ _)))
def exD : Nds := ndsR [exA, exO] (fun _ => none) (fun _ => 0)
def exK : Lks := lksR [exP] (fun _ => none) (fun _ => 0)
theorem fnd_a (D : Nds) (h0 : D.Nm 0 = ⟨#[97]⟩) : fnd D.Nm 2 ⟨#[97]⟩ = 0 := (fnd_at (k := 0) ⟨by omega, fun j hj => by omega, fun _ => by simp [h0]⟩).trans (by simp)
theorem fnd_o (D : Nds) (h0 : D.Nm 0 = ⟨#[97]⟩) (h1 : D.Nm 1 = ⟨#[111]⟩) : fnd D.Nm 2 ⟨#[111]⟩ = 1 := (fnd_at (k := 1) ⟨by omega, fun j hj => by
  have : j = 0 := by omega
  subst this
  show decide (D.Nm 0 = ⟨#[111]⟩) = false
  rw [h0]; decide, fun _ => by simp [h1]⟩).trans (by simp)
theorem netV_ex : netV [exA, exO] [exP] := by
  unfold netV
  refine ⟨by decide, by decide, fun i hi => ?_, fun i hi => ?_⟩
  · have hi2 : i < 2 := hi
    match i, hi2 with
    | 0, _ =>
      refine ⟨⟨by decide, by show poP 0; decide, by show poP 0; decide, ⟨by show lvP 1000; decide, by show lvP 3000; decide⟩, .inr ⟨.inl rfl, by decide, ⟨tabA, rfl, rfl, rfl, by decide⟩, .inl ⟨rfl, rfl⟩⟩⟩, ?_⟩
      exact fnd_a _ rfl
    | 1, _ =>
      refine ⟨⟨by decide, by show poP 0; decide, by show poP 50000; decide, ⟨by show lvP 800; decide, by show lvP 2000; decide⟩, .inl ⟨rfl, by decide, rfl, rfl, rfl⟩⟩, ?_⟩
      exact fnd_o _ rfl rfl
  · have hi2 : i < 1 := hi
    obtain rfl : i = 0 := by omega
    have h0 := fnd_a (ndsR [exA, exO] (fun _ => none) (fun _ => 0)) rfl
    have h1 := fnd_o (ndsR [exA, exO] (fun _ => none) (fun _ => 0)) rfl rfl
    refine ⟨⟨by decide, by decide, by decide, by decide, by show lvP 1000; decide, by show lvP 900; decide, .inl ⟨rfl, by decide, by decide, rfl, rfl, rfl⟩⟩, ?_, ?_, ?_, ?_⟩
    · exact (fnd_at (k := 0) ⟨by simp, fun j hj => by omega, fun _ => by simp [lksR]⟩).trans (by simp)
    · exact h0.symm ▸ (by decide : (0 : Int) ≤ 0)
    · exact h1.symm ▸ (by decide : (0 : Int) ≤ 1)
    · show (ndsR [exA, exO] (fun _ => none) (fun _ => 0)).Kd (fnd (ndsR [exA, exO] (fun _ => none) (fun _ => 0)).Nm 2 ⟨#[97]⟩).toNat ≠ 3
      rw [h0]; decide
theorem exS_size : exS.size = 99 := rfl
/-- The example: nothing else can Parse answer. -/
theorem ntis_ex {N : List Ndr} {L : List Lkr} {k : Nat} {e : Int} (h : NtIs netV exS.data.toList N L k e) : N = [exA, exO] ∧ L = [exP] ∧ k = 0 ∧ e = 0 :=
  h.uniq (.ok _ _ (by rw [str_size, exS_size]; decide) runs_ex netV_ex)
theorem runs_exs {N : List Ndr} {L : List Lkr} (h : Runs [] [] (rln exS.data.toList) N L) : N.length ≤ 2000 ∧ L.length ≤ 2000 := by
  obtain ⟨rfl, rfl⟩ := h.det runs_ex
  exact ⟨by decide, by decide⟩
/-- One edge. -/
theorem way_one {X Y : Nat → Int} {i j z : Int} (hX : X 0 = i) (hY : Y 0 = j) : WayP X Y 1 i z ↔ z = j := by
  constructor
  · intro h
    refine Rch.closed (P := fun z => z = j) ?_ ?_ h
    · rintro z ⟨k, hk, _, hk2⟩
      obtain rfl : k = 0 := by omega
      rw [← hk2]; exact hY
    · intro k hk _
      obtain rfl : k = 0 := by omega
      exact hY
  · rintro rfl
    exact .src ⟨0, by omega, hX, hY⟩
theorem ord_one {X Y : Nat → Int} (hX : X 0 = 0) (hY : Y 0 = 1) : ordO 2 X Y 1 = [0, 1] := by
  have r2 : List.range 2 = [0, 1] := rfl
  have r1 : List.range 1 = [0] := rfl
  have p0 : pick 2 X Y 1 [] = some 0 := by
    have h0 : rdyB X Y 1 [] 0 = true := by unfold rdyB; rw [r1]; simp [hY]
    unfold pick; rw [r2, List.find?_cons, h0]
  have p1 : pick 2 X Y 1 [0] = some 1 := by
    have h0 : rdyB X Y 1 [0] 0 = false := by unfold rdyB; simp
    have h1 : rdyB X Y 1 [0] 1 = true := by unfold rdyB; rw [r1]; simp [hX]
    unfold pick; rw [r2, List.find?_cons, h0, List.find?_cons, h1]
  unfold ordO
  show ordL 2 X Y 1 2 [] = _
  rw [show ordL 2 X Y 1 2 [] = (match pick 2 X Y 1 [] with | none => [] | some v => ordL 2 X Y 1 1 ([] ++ [(v : Int)])) from rfl, p0]
  show ordL 2 X Y 1 1 [0] = _
  rw [show ordL 2 X Y 1 1 [0] = (match pick 2 X Y 1 [0] with | none => [0] | some v => ordL 2 X Y 1 0 ([0] ++ [(v : Int)])) from rfl, p1]
  rfl
theorem ordR_one {X Y : Nat → Int} (hX : X 0 = 0) (hY : Y 0 = 1) : ordR 2 X Y 1 = [0, 1] ∧ ordE 2 X Y 1 = 0 := by
  unfold ordR ordE
  rw [ord_one hX hY]
  exact ⟨rfl, rfl⟩
theorem nm_below {D : Nds} {X Y : Nat → Int} (h1 : D.Nm 1 = ⟨#[111]⟩) (hX : X 0 = 0) (hY : Y 0 = 1) : nmL D (wayB X Y 1 0) 2 = [⟨#[111]⟩] := by
  have w0 : wayB X Y 1 0 0 = false := by
    cases h : wayB X Y 1 0 0 with
    | false => rfl
    | true => have := (way_one hX hY).1 (wayB_iff.1 h); simp at this
  have w1 : wayB X Y 1 0 1 = true := wayB_iff.2 ((way_one hX hY).2 rfl)
  rw [nmL_succ, nmL_succ, w0, w1, h1]; rfl
theorem nm_above {D : Nds} {X Y : Nat → Int} (h0 : D.Nm 0 = ⟨#[97]⟩) (hX : X 0 = 1) (hY : Y 0 = 0) : nmL D (wayB X Y 1 1) 2 = [⟨#[97]⟩] := by
  have w1 : wayB X Y 1 1 1 = false := by
    cases h : wayB X Y 1 1 1 with
    | false => rfl
    | true => have := (way_one hX hY).1 (wayB_iff.1 h); simp at this
  have w0 : wayB X Y 1 1 0 = true := wayB_iff.2 ((way_one hX hY).2 rfl)
  rw [nmL_succ, nmL_succ, w0, w1, h0]; rfl
end Go.Proofs.YtghefgifhebniaaGreatDoor

namespace Go.Proofs.YtghefgifhebniaaGreatDoor
open Go.RowKit
set_option linter.unusedVariables false
set_option linter.unusedSimpArgs false

@[go_sem] theorem eq_pair (a b c d : Int) (w : World) : (Op.equalIn 10000 38 (.agg #[.int .i64 a, .int .i64 b]) (.agg #[.int .i64 c, .int .i64 d])).run Tryz.prog w = .ok (a == c && b == d) w := by
  have u3 := Tryz.underlying3
  have a3 := Tryz.isAgg3
  have z3 := Tryz.sizeOf3
  rw [show (10000 : Nat) = 9999 + 1 from rfl, Op.equalIn]
  simp only [Sem.run_bind, run_underlying Tryz.underlying38, Result.andThen_ok]
  simp only [Std.Legacy.Range.forIn_eq_forIn_range', Std.Legacy.Range.size, Nat.sub_zero, Nat.add_sub_cancel, Nat.div_one, List.range'_succ, List.range'_zero, List.forIn_cons, List.forIn_nil]
  go_simp
  by_cases h1 : a = c <;> by_cases h2 : b = d <;> simp [h1, h2]
set_option maxHeartbeats 2000000 in
theorem eequal (A B : Option Addr) (n m c d : Nat) (X Y X' Y' : Nat → Int) (w : World) (hA : TabIn w A n X Y) (hB : TabIn w B m X' Y') :
    Calls Tryz.prog 20 #[.slice A n c, .slice B m d] w fun e w' => e = .returned (.bool (boolOf (tabEq n X Y m X' Y'))) ∧ Below w.heap.size w w' := by
  have HA := Lib.hid hA
  have HB := Lib.hid hB
  have H2 := Lib.hid hA.1
  obtain ⟨f, hf⟩ : ∃ f, Hid (f = boolOf (tabEq n X Y m X' Y')) := ⟨_, rfl⟩
  rw [← hf.out]
  by_cases hnm : n = m
  case neg =>
    obtain rfl : f = false := by rw [hf.out]; exact boolOf_false fun h => hnm h.1
    have t1 : (n == m) = false := by simpa using hnm
    have t2 : (n != m) = true := by simpa using hnm
    have t3 : ((n : Int) == (m : Int)) = false := by rw [beq_eq_false_iff_ne]; omega
    have t4 : ((n : Int) != (m : Int)) = true := by simp; omega
    clear hA hB hnm hf
    go_enter Tryz.func20, Tryz.ntmps20
    go_wp2_with fail
    go_ret
    exact ⟨rfl, Below.refl _ _⟩
  case pos =>
  subst hnm
  clear hA hB
  go_enter Tryz.func20, Tryz.ntmps20
  go_wp2_with fail
  go_loopw [13] (fun u wr => ∃ i : Nat, Hid (i ≤ n) ∧ u = .int .i64 i ∧ Hid (∀ j, j < i → X j = X' j ∧ Y j = Y' j) ∧ Hid (Below w.heap.size w wr)) (fun u _ => n - (RowKit.intOf u).toNat)
  case atStart => exact ⟨0, Nat.zero_le _, rfl, fun j hj => absurd hj (Nat.not_lt_zero _), Below.refl _ _⟩
  case round =>
    obtain ⟨i, Hi, rfl, HG, HW⟩ := hrel
    by_cases hlt : i < n
    · have T0 : decide ((i : Int) < (n : Int)) = true := by simp <;> omega
      have T0' : decide (i < n) = true := decide_eq_true hlt
      obtain ⟨i', hi'⟩ : ∃ z, z = i + 1 := ⟨_, rfl⟩
      have x0 : IntKind.i64.wrap ((i : Int) + 1) = (i' : Int) := by have := H2.out; rw [IntKind.wrap_i64]; omega
      have HI' : Hid (i' ≤ n) := by show i' ≤ n; omega
      have HMS : Hid (n - (RowKit.intOf (Value.int .i64 (i' : Int))).toNat < n - (RowKit.intOf (Value.int .i64 (i : Int))).toNat) := by show _ < _; simp [RowKit.intOf]; omega
      have k0 : (0 : Int) ≤ (i : Int) := by omega
      have k1 : (i : Int) < (n : Int) := by omega
      obtain ⟨b1, o1, rfl, hb1, p0, p1⟩ := (HA.out.below (Nat.le_refl _) HW.out).at hlt
      obtain ⟨b2, o2, rfl, hb2, q0, q1⟩ := (HB.out.below (Nat.le_refl _) HW.out).at hlt
      have HLT := Lib.hid hlt
      have HST : Hid (X i = X' i ∧ Y i = Y' i → ∀ j, j < i' → X j = X' j ∧ Y j = Y' j) := fun h j hj => by
        rcases Nat.lt_or_ge j i with g | g
        · exact HG.out j g
        · have : j = i := by omega
          rw [this]; exact h
      have HNO : Hid (¬ (X i = X' i ∧ Y i = Y' i) → f = false) := fun h => by
        rw [hf.out]; exact boolOf_false fun g => h (g.2 i HLT.out)
      generalize X i = x at p0 HST HNO
      generalize Y i = y at p1 HST HNO
      generalize X' i = x' at q0 HST HNO
      generalize Y' i = y' at q1 HST HNO
      clear hi' hlt
      by_cases hx : x = x'
      · subst hx
        by_cases hy : y = y'
        · subst hy
          go_wp2_with fail
          go_quiet (fail)
          go_wp2_with fail
          go_roundw
          case rel => exact ⟨i', HI', rfl, HST.out (by simp), below_drewN HW.out _⟩
          case measure => exact HMS.out
        · have t1 : (y == y') = false := by simpa using hy
          have t2 : (y != y') = true := by simpa using hy
          obtain rfl : f = false := HNO.out (by simpa using hy)
          clear hy
          go_wp2_with fail
          go_quiet (fail)
          go_wp2_with fail
          go_ret
          exact ⟨rfl, below_drewN HW.out _⟩
      · have t1 : (x == x') = false := by simpa using hx
        have t2 : (x != x') = true := by simpa using hx
        obtain rfl : f = false := HNO.out fun h => hx h.1
        clear hx
        go_wp2_with fail
        go_quiet (fail)
        go_wp2_with fail
        go_ret
        exact ⟨rfl, below_drewN HW.out _⟩
    · have hin : i = n := by have := Hi.out; omega
      have T0 : decide ((i : Int) < (n : Int)) = false := by simp <;> omega
      have T0' : decide (i < n) = false := decide_eq_false hlt
      obtain rfl : f = true := by rw [hf.out]; exact boolOf_true ⟨rfl, by rw [← hin]; exact HG.out⟩
      clear hlt hin
      go_wp2_with fail
      go_ret
      exact ⟨rfl, HW.out⟩
end Go.Proofs.YtghefgifhebniaaGreatDoor

namespace Go.Proofs.YtghefgifhebniaaGreatDoor
open Go.RowKit Go.Sort
set_option linter.unusedVariables false
set_option linter.unusedSimpArgs false

/-- What is known of the network of the example. -/
structure ExNet (D : Nds) (K : Lks) : Prop where
  sz : NetSz D 2 K 1
  ok : netP D 2 K 1
  n0 : D.Nm 0 = ⟨#[97]⟩
  n1 : D.Nm 1 = ⟨#[111]⟩
  x0 : eX D 2 K 0 = 0
  y0 : eY D 2 K 0 = 1
theorem ex_net {NM : List Ndm} {LM : List Lkm} (h1 : ndx NM = [exA, exO]) (h2 : lkx LM = [exP]) : NM.length = 2 ∧ LM.length = 1 ∧ ExNet (ndsM NM) (lksM LM) := by
  have l1 : NM.length = 2 := by have := congrArg List.length h1; unfold ndx at this; rwa [List.length_map] at this
  have l2 : LM.length = 1 := by have := congrArg List.length h2; unfold lkx at this; rwa [List.length_map] at this
  have a0 : (ndsM NM).Nm 0 = ⟨#[97]⟩ := by unfold ndsM ndsR; rw [h1]; rfl
  have a1 : (ndsM NM).Nm 1 = ⟨#[111]⟩ := by unfold ndsM ndsR; rw [h1]; rfl
  have b0 : (lksM LM).Fr 0 = ⟨#[97]⟩ := by unfold lksM lksR; rw [h2]; rfl
  have b1 : (lksM LM).To 0 = ⟨#[111]⟩ := by unfold lksM lksR; rw [h2]; rfl
  have b2 : (lksM LM).Nm 0 = ⟨#[112]⟩ := by unfold lksM lksR; rw [h2]; rfl
  have b3 : (lksM LM).Sc 0 = ⟨#[99, 51, 48, 48]⟩ := by unfold lksM lksR; rw [h2]; rfl
  have b4 : (lksM LM).CN 0 = 0 := by unfold lksM lksR; rw [h2]; rfl
  have hok : netP (ndsM NM) 2 (lksM LM) 1 := by
    have := (netV_iff (ndx NM) (lkx LM) (fun k => (NM.getD k ⟨zNd, none, 0⟩).A) (fun k => (LM.getD k ⟨zLk, none, 0⟩).A) (fun k => (NM.getD k ⟨zNd, none, 0⟩).c) (fun k => (LM.getD k ⟨zLk, none, 0⟩).c)).2 (by rw [h1, h2]; exact netV_ex)
    rw [h1, h2] at this
    unfold ndsM lksM
    rw [h1, h2]
    exact this
  have hmx : (1 : Nat) ≤ maxLen ∧ (4 : Nat) ≤ maxLen := by have : maxLen = 9223372036854775807 := rfl; omega
  have one : ∀ i, i < 1 → i = 0 := fun i hi => by omega
  refine ⟨l1, l2, ⟨by decide, by decide, fun i hi => ?_, fun i hi => ?_, fun i hi => ?_, fun i hi => ?_, fun i hi => ?_, fun i hi => ?_⟩, hok, a0, a1, ?_, ?_⟩
  · rcases (show i = 0 ∨ i = 1 by omega) with rfl | rfl
    · rw [a0]; exact hmx.1
    · rw [a1]; exact hmx.1
  · rw [one i hi, b2]; exact hmx.1
  · rw [one i hi, b0]; exact hmx.1
  · rw [one i hi, b1]; exact hmx.1
  · rw [one i hi, b3]; exact hmx.2
  · rw [one i hi, b4]; omega
  · unfold eX; rw [b0]; exact fnd_a _ a0
  · unfold eY; rw [b1]; exact fnd_o _ a0 a1
theorem own_ints {w : World} {B : Nat} {u : Value} {L : List Int} (h : w.ownsRow B 3 1 u L.length (ic L)) (hL : L ≠ []) : ∃ g c, u = .slice (some ⟨g, 0, none⟩) L.length c ∧ g < w.heap.size ∧ ∀ j, j < L.length → w.cell? ⟨g, 0 + j, none⟩ = some (.int .i64 (L.getD j 0)) := by
  rcases h.2 with ⟨hv, h0⟩ | ⟨g, cap, cur, hv, _⟩
  · exact absurd (List.eq_nil_of_length_eq_zero h0) hL
  · subst hv
    refine ⟨g, cap, rfl, (h.lt g rfl).2, fun j hj => ?_⟩
    have := h.cellAt j (by omega)
    rw [Nat.zero_add]
    refine this.trans ?_
    unfold ic
    simp [List.getD, hj]
theorem own_strs {w : World} {B : Nat} {u : Value} {L : List ByteArray} (h : w.ownsRow B 9 1 u L.length (sc L)) (hL : L ≠ []) : ∃ g c, u = .slice (some ⟨g, 0, none⟩) L.length c ∧ g < w.heap.size ∧ ∀ j, j < L.length → w.cell? ⟨g, 0 + j, none⟩ = some (.string (L.getD j ByteArray.empty)) := by
  rcases h.2 with ⟨hv, h0⟩ | ⟨g, cap, cur, hv, _⟩
  · exact absurd (List.eq_nil_of_length_eq_zero h0) hL
  · subst hv
    have hl : (sc L).length = L.length := by unfold sc; simp
    refine ⟨g, cap, rfl, (h.lt g rfl).2, fun j hj => ?_⟩
    have := h.cellAt j (by omega)
    rw [Nat.zero_add]
    refine this.trans ?_
    unfold sc
    simp [List.getD, hj]
/-- slices.Equal at edges of which one is known, as awake asks. -/
theorem eq_edge {A : Option Addr} {c : Nat} {X Y : Nat → Int} {w : World} (h : TabIn w A 1 X Y) (hx : X 0 = 0) (hy : Y 0 = 1) : Calls Tryz.prog 20 #[.slice A 1 c, .slice (some ⟨w.heap.size, 0, none⟩) 1 1] (w.alloc (Obj.cells #[.int .i64 0, .int .i64 1] 38)) fun e w' => e = .returned (.bool true) ∧ Below w.heap.size w w' := by
  have hal : Below w.heap.size w (w.alloc (Obj.cells #[.int .i64 0, .int .i64 1] 38)) := (Below.refl _ w).alloc (Nat.le_refl _) _
  have hb := Blk.new w 38 #[.int .i64 0, .int .i64 1]
  have h2 : TabIn (w.alloc (Obj.cells #[.int .i64 0, .int .i64 1] 38)) (some ⟨w.heap.size, 0, none⟩) 1 (fun _ => 0) (fun _ => 1) := ⟨by omega, .inr ⟨_, _, rfl, hb.lt, fun k hk => by
    obtain rfl : k = 0 := by omega
    exact ⟨hb.cell 0, hb.cell 1⟩⟩⟩
  have hq : tabEq 1 X Y 1 (fun _ => 0) (fun _ => 1) := ⟨rfl, fun k hk => by
    obtain rfl : k = 0 := by omega
    exact ⟨hx, hy⟩⟩
  refine (eequal A _ 1 1 c 1 X Y _ _ _ (h.below (Nat.le_refl _) hal) h2).mono ?_
  rintro e w' ⟨he, hb'⟩
  exact ⟨by rw [he, boolOf_true hq], below_step hal hb'⟩
theorem eq_ints {B : Nat} {u : Value} {w : World} (h : w.ownsRow B 3 1 u 2 (ic [0, 1])) : Calls Tryz.prog 22 #[u, .slice (some ⟨w.heap.size, 0, none⟩) 2 2] (w.alloc (Obj.cells #[.int .i64 0, .int .i64 1] 3)) fun e w' => e = .returned (.bool true) ∧ Below w.heap.size w w' := by
  obtain ⟨g, c, rfl, hg, hc⟩ := own_ints (L := [0, 1]) h (by simp)
  have hal : Below w.heap.size w (w.alloc (Obj.cells #[.int .i64 0, .int .i64 1] 3)) := (Below.refl _ w).alloc (Nat.le_refl _) _
  have hb := Blk.new w 3 #[.int .i64 0, .int .i64 1]
  refine (Tryz.slices_Equal_int g 0 2 c w.heap.size 0 2 2 [0, 1] [0, 1] _ (by simp) (by simp) (by omega) (by omega) (fun j hj => (hal.cell (p := ⟨g, 0 + j, none⟩) hg).trans (hc j hj)) (fun j hj => ?_)).mono ?_
  · have hj2 : j < 2 := hj
    match j, hj2 with
    | 0, _ => exact hb.cell 0
    | 1, _ => exact hb.cell 1
  · rintro e w' ⟨he, q, rfl⟩
    exact ⟨by rw [he]; rfl, below_drewN hal _⟩
theorem eq_strs {B : Nat} {u : Value} {s : ByteArray} {w : World} (h : w.ownsRow B 9 1 u 1 (sc [s])) : Calls Tryz.prog 26 #[u, .slice (some ⟨w.heap.size, 0, none⟩) 1 1] (w.alloc (Obj.cells #[.string s] 9)) fun e w' => e = .returned (.bool true) ∧ Below w.heap.size w w' := by
  obtain ⟨g, c, rfl, hg, hc⟩ := own_strs (L := [s]) h (by simp)
  have hal : Below w.heap.size w (w.alloc (Obj.cells #[.string s] 9)) := (Below.refl _ w).alloc (Nat.le_refl _) _
  have hb := Blk.new w 9 #[.string s]
  refine (Tryz.slices_Equal_string g 0 1 c w.heap.size 0 1 1 [s] [s] _ (by simp) (by simp) (by omega) (by omega) (fun j hj => (hal.cell (p := ⟨g, 0 + j, none⟩) hg).trans (hc j hj)) (fun j hj => ?_)).mono ?_
  · have hj2 : j < 1 := hj
    obtain rfl : j = 0 := by omega
    exact hb.cell 0
  · rintro e w' ⟨he, q, rfl⟩
    exact ⟨by rw [he]; simp, below_drewN hal _⟩
/-- What the five functions answer at the network of the example. -/
theorem ex_valid {NA LA : Option Addr} {cn cl : Nat} {D : Nds} {K : Lks} {w : World} (hX : ExNet D K) (hD : NdIn w NA 2 D) (hK : LkIn w LA 1 K) : Calls Tryz.prog 36 #[.agg #[.slice NA 2 cn, .slice LA 1 cl]] w fun e w' => e = .returned (.bool true) ∧ Below w.heap.size w w' := by
  refine (nvalid NA LA 2 cn 1 cl D K hX.sz w hD hK).mono ?_
  rintro e w' ⟨he, hb⟩
  exact ⟨by rw [he, boolOf_true hX.ok], hb⟩
theorem ex_edges {NA LA : Option Addr} {cn cl : Nat} {D : Nds} {K : Lks} {w : World} (hX : ExNet D K) (hD : NdIn w NA 2 D) (hK : LkIn w LA 1 K) : Calls Tryz.prog 16 #[.agg #[.slice NA 2 cn, .slice LA 1 cl]] w fun e w' => ∃ A c, e = .returned (.tuple #[.slice A 1 c, .int .i64 0]) ∧ TabIn w' A 1 (eX D 2 K) (eY D 2 K) ∧ Below w.heap.size w w' := by
  refine (tnedges NA LA 2 cn 1 cl D K hX.sz w hD hK).mono ?_
  rintro e w' (⟨hn, _⟩ | ⟨_, u, he, hm⟩)
  · exact absurd hX.ok hn
  · obtain ⟨A, c, rfl, ht⟩ := hm.tab (by decide)
    exact ⟨A, c, he, ht, hm.2⟩
theorem ex_order {NA LA : Option Addr} {cn cl : Nat} {D : Nds} {K : Lks} {w : World} (hX : ExNet D K) (hD : NdIn w NA 2 D) (hK : LkIn w LA 1 K) : Calls Tryz.prog 17 #[.agg #[.slice NA 2 cn, .slice LA 1 cl]] w fun e w' => ∃ u, e = .returned (.tuple #[u, .int .i64 0]) ∧ w'.ownsRow w.heap.size 3 1 u 2 (ic [0, 1]) ∧ Below w.heap.size w w' := by
  refine (tnorder NA LA 2 cn 1 cl D K hX.sz w hD hK).mono ?_
  rintro e w' (⟨hn, _⟩ | ⟨_, u, he, ho, hb⟩)
  · exact absurd hX.ok hn
  · obtain ⟨h1, h2⟩ := ordR_one hX.x0 hX.y0
    rw [h1] at ho
    rw [h2] at he
    exact ⟨u, he, ho, hb⟩
theorem ex_below {NA LA : Option Addr} {cn cl : Nat} {D : Nds} {K : Lks} {w : World} (hX : ExNet D K) (hD : NdIn w NA 2 D) (hK : LkIn w LA 1 K) : Calls Tryz.prog 24 #[.agg #[.slice NA 2 cn, .slice LA 1 cl], .string ⟨#[97]⟩] w fun e w' => ∃ u, e = .returned (.tuple #[u, .int .i64 0]) ∧ w'.ownsRow w.heap.size 9 1 u 1 (sc [⟨#[111]⟩]) ∧ Below w.heap.size w w' := by
  refine (tnbelow NA LA 2 cn 1 cl D K _ hX.sz w hD hK).mono ?_
  have hf := fnd_a D hX.n0
  rintro e w' (⟨hn, _⟩ | ⟨_, h⟩)
  · exact absurd hX.ok hn
  · rw [hf] at h
    rcases h with ⟨h0, _⟩ | ⟨_, u, he, hm⟩
    · omega
    · have := nm_below (D := D) hX.n1 hX.x0 hX.y0
      rw [this] at hm
      exact ⟨u, he, hm.1, hm.2⟩
theorem ex_above {NA LA : Option Addr} {cn cl : Nat} {D : Nds} {K : Lks} {w : World} (hX : ExNet D K) (hD : NdIn w NA 2 D) (hK : LkIn w LA 1 K) : Calls Tryz.prog 23 #[.agg #[.slice NA 2 cn, .slice LA 1 cl], .string ⟨#[111]⟩] w fun e w' => ∃ u, e = .returned (.tuple #[u, .int .i64 0]) ∧ w'.ownsRow w.heap.size 9 1 u 1 (sc [⟨#[97]⟩]) ∧ Below w.heap.size w w' := by
  refine (tnabove NA LA 2 cn 1 cl D K _ hX.sz w hD hK).mono ?_
  have hf := fnd_o D hX.n0 hX.n1
  rintro e w' (⟨hn, _⟩ | ⟨_, h⟩)
  · exact absurd hX.ok hn
  · rw [hf] at h
    rcases h with ⟨h0, _⟩ | ⟨_, u, he, hm⟩
    · omega
    · have := nm_above (D := D) hX.n0 hX.y0 hX.x0
      rw [this] at hm
      exact ⟨u, he, hm.1, hm.2⟩
set_option maxRecDepth 100000 in
set_option maxHeartbeats 8000000 in
theorem awake26 (w : World) (hE : Env w) : Calls Tryz.prog 14 #[] w fun e w' => e = .returned (.bool true) ∧ Below w.heap.size w w' := by
  have SP := Lib.hid (tnparse exS (by rw [exS_size]; decide) (fun N L h => runs_exs h) w hE)
  clear hE
  go_enter Tryz.func14, Tryz.ntmps14
  go_upto_region 2 with (first
    | (go_at_call 45
       refine SP.out.mono ?_
       rintro e w1 ⟨NM, LM, k, er, NA, LA, cn, cl, hnt, rfl, hnd, hlk, hb1⟩
       obtain ⟨q1, q2, rfl, rfl⟩ := ntis_ex hnt
       obtain ⟨l1, l2, hex⟩ := ex_net q1 q2
       rw [l1] at hnd
       rw [l2] at hlk
       rw [l1, l2, show posN 0 = .agg #[.int .i64 0, .int .i64 0] from rfl]
       clear hnt q1 q2 l1 l2
       generalize ndsM NM = D at hnd hex
       generalize lksM LM = K at hlk hex
       have HX := Lib.hid hex
       have HND := Lib.hid hnd
       have HLK := Lib.hid hlk
       have HB1 := Lib.hid hb1
       clear hex hnd hlk hb1))
  clear SP
  have hal : Below w1.heap.size w1 ((w1.alloc (Obj.cells #[.slice NA 2 cn, .slice LA 1 cl] 25)).alloc (Obj.cells #[.int .i64 0, .int .i64 0] 73)) := ((Below.refl _ w1).alloc (Nat.le_refl _) _).alloc (by simp) _
  have HBX : Hid (Blk ((w1.alloc (Obj.cells #[.slice NA 2 cn, .slice LA 1 cl] 25)).alloc (Obj.cells #[.int .i64 0, .int .i64 0] 73)) w1.heap.size 25 #[.slice NA 2 cn, .slice LA 1 cl]) := (Blk.new _ _ _).alloc _
  have HAL := Lib.hid hal
  clear hal
  generalize ((w1.alloc (Obj.cells #[.slice NA 2 cn, .slice LA 1 cl] 25)).alloc (Obj.cells #[.int .i64 0, .int .i64 0] 73)) = w3 at HBX HAL ⊢
  obtain ⟨y0, y1⟩ := blk2 HBX.out
  go_wp2_with (first
    | (go_at_call 36
       with_reducible refine (ex_valid HX.out (HND.out.below (Nat.le_refl _) HAL.out) (HLK.out.below (Nat.le_refl _) HAL.out)).mono ?_
       rintro e w4 ⟨rfl, hb⟩
       have HB4 := Lib.hid (below_step HAL.out hb)
       have HX4 := Lib.hid (HBX.out.call hb)
       obtain ⟨y0, y1⟩ := blk2 HX4.out
       clear hb)
    | (go_at_call 16
       with_reducible refine (ex_edges HX.out (HND.out.below (Nat.le_refl _) HB4.out) (HLK.out.below (Nat.le_refl _) HB4.out)).mono ?_
       rintro e w5 ⟨A5, c5, rfl, ht5, hb⟩
       have HT5 := Lib.hid ht5
       have HB5 := Lib.hid (below_step HB4.out hb)
       have HX5 := Lib.hid (HX4.out.call hb)
       obtain ⟨y0, y1⟩ := blk2 HX5.out
       clear hb ht5)
    | (go_at_call 17
       with_reducible refine (ex_order HX.out (HND.out.below (Nat.le_refl _) HB5.out) (HLK.out.below (Nat.le_refl _) HB5.out)).mono ?_
       rintro e w6 ⟨u6', rfl, ho6, hb⟩
       have HT6 := Lib.hid (HT5.out.below (Nat.le_refl _) hb)
       have HO6 := Lib.hid ho6
       have HB6 := Lib.hid (below_step HB5.out hb)
       have HX6 := Lib.hid (HX5.out.call hb)
       obtain ⟨y0, y1⟩ := blk2 HX6.out
       clear hb ho6)
    | (go_at_call 24
       with_reducible refine (ex_below HX.out (HND.out.below (Nat.le_refl _) HB6.out) (HLK.out.below (Nat.le_refl _) HB6.out)).mono ?_
       rintro e w7 ⟨u7', rfl, ho7, hb⟩
       have HT7 := Lib.hid (HT6.out.below (Nat.le_refl _) hb)
       have HO7 := Lib.hid (own_below HO6.out hb)
       have HP7 := Lib.hid ho7
       have HB7 := Lib.hid (below_step HB6.out hb)
       have HX7 := Lib.hid (HX6.out.call hb)
       obtain ⟨y0, y1⟩ := blk2 HX7.out
       clear hb ho7)
    | (go_at_call 23
       with_reducible refine (ex_above HX.out (HND.out.below (Nat.le_refl _) HB7.out) (HLK.out.below (Nat.le_refl _) HB7.out)).mono ?_
       rintro e w8 ⟨u8', rfl, ho8, hb⟩
       have HT8 := Lib.hid (HT7.out.below (Nat.le_refl _) hb)
       have HO8 := Lib.hid (own_below HO7.out hb)
       have HP8 := Lib.hid (own_below HP7.out hb)
       have HQ8 := Lib.hid ho8
       have HB8 := Lib.hid (below_step HB7.out hb)
       clear hb ho8)
    | (go_at_call 20
       with_reducible refine (eq_edge HT8.out HX.out.x0 HX.out.y0).mono ?_
       rintro e w9 ⟨rfl, hb⟩
       have HO9 := Lib.hid (own_below HO8.out hb)
       have HP9 := Lib.hid (own_below HP8.out hb)
       have HQ9 := Lib.hid (own_below HQ8.out hb)
       have HB9 := Lib.hid (below_step HB8.out hb)
       clear hb)
    | (go_at_call 22
       with_reducible refine (eq_ints HO9.out).mono ?_
       rintro e w10 ⟨rfl, hb⟩
       have HP10 := Lib.hid (own_below HP9.out hb)
       have HQ10 := Lib.hid (own_below HQ9.out hb)
       have HB10 := Lib.hid (below_step HB9.out hb)
       clear hb)
    | (go_at_call 26
       with_reducible refine (eq_strs HP10.out).mono ?_
       rintro e w11 ⟨rfl, hb⟩
       have HQ11 := Lib.hid (own_below HQ10.out hb)
       have HB11 := Lib.hid (below_step HB10.out hb)
       clear hb HP10)
    | (go_at_call 26
       with_reducible refine (eq_strs HQ11.out).mono ?_
       rintro e w12 ⟨rfl, hb⟩
       have HB12 := Lib.hid (below_step HB11.out hb)
       clear hb))
  go_ret
  exact ⟨rfl, below_step HB1.out HB12.out⟩
end Go.Proofs.YtghefgifhebniaaGreatDoor

namespace Go.Proofs.YtghefgifhebniaaGreatDoor
open Go.RowKit Go.Sort
set_option linter.unusedVariables false
set_option linter.unusedSimpArgs false

theorem rch_done {m f : Nat} {X Y C : Nat → Int} {o : Nat → Bool} (hit : ∀ v, o v = true → Rch X Y m (srcP f C) (v : Int)) (src : ∀ j, j < f → o (C j).toNat = true) (cl : ∀ k, k < m → o (X k).toNat = true → o (Y k).toNat = true) (v : Nat) : o v = true ↔ Rch X Y m (srcP f C) (v : Int) := by
  refine ⟨hit v, fun hr => ?_⟩
  have key : ∀ z, Rch X Y m (srcP f C) z → o z.toNat = true := fun z hz => hz.closed (P := fun z => o z.toNat = true) (fun z ⟨j, hj, e⟩ => by rw [← e]; exact src j hj) (fun k hk h => cl k hk h)
  simpa using key _ hr
theorem bset_at (o : Nat → Bool) (i : Nat) : bset o i i = true := by simp [bset]
theorem bset_of {o : Nat → Bool} {i v : Nat} (h : o v = true) : bset o i v = true := by simp [bset, h]
theorem bset_inv {o : Nat → Bool} {i v : Nat} (h : bset o i v = true) : o v = true ∨ v = i := by simpa [bset] using h
/-- What stands between two rounds: what is marked is reached, and the first nodes are marked. -/
structure RrI (X Y : Nat → Int) (m f : Nat) (C : Nat → Int) (o : Nat → Bool) : Prop where
  hit : ∀ v, o v = true → Rch X Y m (srcP f C) (v : Int)
  src : ∀ j, j < f → o (C j).toNat = true
theorem RrI.step {X Y : Nat → Int} {m f : Nat} {C : Nat → Int} {o : Nat → Bool} {k x y : Nat} (h : RrI X Y m f C o) (hk : k < m) (hx : X k = (x : Int)) (hy : Y k = (y : Int)) (ho : o x = true) : RrI X Y m f C (bset o y) := by
  refine ⟨fun v hv => ?_, fun j hj => bset_of (h.src j hj)⟩
  rcases bset_inv hv with h1 | h1
  · exact h.hit v h1
  · rw [h1, ← hy]
    exact .step hk (by rw [hx]; exact h.hit x ho)
/-- What stands within a round. -/
structure RrJ (X Y : Nat → Int) (m f n : Nat) (C : Nat → Int) (o o' : Nat → Bool) (mr : Bool) (k : Nat) : Prop where
  inv : RrI X Y m f C o'
  no : mr = false → o' = o ∧ ∀ j, j < k → o (X j).toNat = true → o (Y j).toNat = true
  yes : mr = true → cntF n o' < cntF n o
theorem RrJ.pass {X Y : Nat → Int} {m f n : Nat} {C : Nat → Int} {o o' : Nat → Bool} {mr : Bool} {k k' x y : Nat} (h : RrJ X Y m f n C o o' mr k) (hk : k' = k + 1) (hx : X k = (x : Int)) (hy : Y k = (y : Int)) (ho : o' x = false ∨ o' y = true) : RrJ X Y m f n C o o' mr k' := by
  refine ⟨h.inv, fun hm => ?_, h.yes⟩
  obtain ⟨e, hc⟩ := h.no hm
  refine ⟨e, fun j hj hj2 => ?_⟩
  rcases Nat.lt_or_ge j k with g | g
  · exact hc j g hj2
  · have e2 : j = k := by omega
    subst e2
    rw [hx, Int.toNat_natCast] at hj2
    rw [hy, Int.toNat_natCast]
    rw [e] at ho
    rcases ho with q | q
    · rw [q] at hj2; cases hj2
    · exact q
theorem RrJ.mark {X Y : Nat → Int} {m f n : Nat} {C : Nat → Int} {o o' : Nat → Bool} {mr : Bool} {k k' x y : Nat} (h : RrJ X Y m f n C o o' mr k) (hk : k' = k + 1) (hkm : k < m) (hx : X k = (x : Int)) (hy : Y k = (y : Int)) (hyn : y < n) (h1 : o' x = true) (h2 : o' y = false) : RrJ X Y m f n C o (bset o' y) true k' := by
  refine ⟨h.inv.step hkm hx hy h1, fun e => (by cases e), fun _ => ?_⟩
  have := cntF_set h2 n
  rw [if_pos hyn] at this
  cases mr with
  | true => have := h.yes rfl; omega
  | false =>
    obtain ⟨e, _⟩ := h.no rfl
    rw [e] at this ⊢
    omega
set_option maxRecDepth 100000 in
set_option maxHeartbeats 8000000 in
theorem rreach (A F : Option Addr) (n m c f fc : Nat) (X Y C : Nat → Int) (w : World) (hn : n ≤ 300) (hm : m ≤ 1000) (hf : f ≤ 1000) (hE : EdOK n X Y m) (ht : TabIn w A m X Y) (hF : IntIn w F f C) (hC : ∀ j, j < f → 0 ≤ C j ∧ C j < n) :
    Calls Tryz.prog 62 #[.int .i64 n, .slice A m c, .slice F f fc] w (ReachPost n X Y m (srcP f C) w) := by
  have HN := Lib.hid hn
  have HM := Lib.hid hm
  have HFM := Lib.hid hf
  have HE := Lib.hid hE
  have HT := Lib.hid ht
  have HF := Lib.hid hF
  have HC := Lib.hid hC
  have hmk := mk_run 47 4 n 1 (.bool false) infoB Tryz.underlying47 rfl (by omega) (by omega)
  obtain ⟨Z, hZ⟩ : ∃ Z, ((List.range n).map fun _ => Value.bool false).toArray = Z := ⟨_, rfl⟩
  rw [hZ] at hmk
  have HZ : Hid (Z = bcs n (fun _ => false)) := hZ.symm
  clear hn hm hf hE ht hF hC hZ
  go_enter Tryz.func62, Tryz.ntmps62
  go_upto_block 0 with fail
  have HB0 : Hid (Blk (w.alloc (Obj.cells Z 4)) w.heap.size 4 (bcs n (fun _ => false))) := by show Blk _ _ _ _; rw [HZ.out]; exact Blk.new _ _ _
  have HW0 : Hid (Below w.heap.size w (w.alloc (Obj.cells Z 4))) := (Below.refl _ w).alloc (Nat.le_refl _) _
  clear hmk HZ
  generalize w.alloc (Obj.cells Z 4) = w0 at HB0 HW0 ⊢
  go_wp2_with fail
  go_loopw [8] (fun x wr => ∃ (i : Nat) (o : Nat → Bool), x = .int .i64 i ∧ Hid (i ≤ f) ∧ Hid (Blk wr w.heap.size 4 (bcs n o)) ∧ Hid (Below w.heap.size w wr) ∧ Hid ((∀ v, o v = true → Rch X Y m (srcP f C) (v : Int)) ∧ ∀ j, j < i → o (C j).toNat = true)) (fun x _ => f - (RowKit.intOf x).toNat)
  case atStart => exact ⟨0, fun _ => false, rfl, Nat.zero_le _, HB0, HW0, fun v hv => (by cases hv), fun j hj => absurd hj (Nat.not_lt_zero _)⟩
  case round =>
    clear HB0 HW0
    obtain ⟨i, o, rfl, Hi, HB, HW, HI⟩ := hrel
    by_cases hlt : i < f
    · have T0 : decide ((i : Int) < (f : Int)) = true := by simp <;> omega
      have T0' : decide (i < f) = true := decide_eq_true hlt
      obtain ⟨i', hi'⟩ : ∃ z, z = i + 1 := ⟨_, rfl⟩
      have x0 : IntKind.i64.wrap ((i : Int) + 1) = (i' : Int) := by have := HFM.out; rw [IntKind.wrap_i64]; omega
      have HI' : Hid (i' ≤ f ∧ i' = i + 1) := ⟨by omega, hi'⟩
      have HMS : Hid (f - (RowKit.intOf (Value.int .i64 (i' : Int))).toNat < f - (RowKit.intOf (Value.int .i64 (i : Int))).toNat) := by show _ < _; simp [RowKit.intOf]; omega
      have k0 : (0 : Int) ≤ (i : Int) := by omega
      have k1 : (i : Int) < (f : Int) := by omega
      obtain ⟨b, off, hA, hb, c1⟩ := (HF.out.below (Nat.le_refl _) HW.out).at hlt
      subst hA
      have hx := HC.out i hlt
      obtain ⟨x, hxx⟩ : ∃ x : Nat, C i = (x : Int) := ⟨(C i).toNat, by omega⟩
      rw [hxx] at c1
      have hxn : x < n := by omega
      have HXX := Lib.hid hxx
      have HLT := Lib.hid hlt
      have k4 : (0 : Int) ≤ (x : Int) := by omega
      have k5 : (x : Int) < (n : Int) := by omega
      have c3 := HB.out.cell x
      rw [bcs_at hxn] at c3
      have f0 := HB.out.frozen x
      have HB5 : Hid (Blk (wr.setCell ⟨w.heap.size, x, none⟩ (.bool true)) w.heap.size 4 (bcs n (bset o x))) := by
        have := HB.out.set_ x (.bool true)
        rwa [bcs_set] at this
      have HW5 : Hid (Below w.heap.size w (wr.setCell ⟨w.heap.size, x, none⟩ (.bool true))) := HW.out.setCell (p := ⟨w.heap.size, x, none⟩) (Nat.le_refl _) _
      clear hi' hxx hx hxn hlt hb
      go_wp2_with fail
      go_roundw
      case rel =>
        refine ⟨i', bset o x, rfl, HI'.out.1, HB5, HW5, fun v hv => ?_, fun j hj => ?_⟩
        · rcases bset_inv hv with h1 | h1
          · exact HI.out.1 v h1
          · rw [h1]; exact .src ⟨i, HLT.out, HXX.out⟩
        · rcases Nat.lt_or_ge j i with g | g
          · exact bset_of (HI.out.2 j g)
          · have e : j = i := by have := HI'.out.2; omega
            rw [e, HXX.out, Int.toNat_natCast]
            exact bset_at o x
      case measure => exact HMS.out
    · have e : i = f := by have := Hi.out; omega
      have T0 : decide ((i : Int) < (f : Int)) = false := by simp <;> omega
      have T0' : decide (i < f) = false := decide_eq_false hlt
      have HR : Hid (RrI X Y m f C o) := ⟨HI.out.1, by have := HI.out.2; rwa [e] at this⟩
      clear hlt e HI
      go_wp2_with fail
      go_loopg [9] (cntF n o + 1) (fun gm a wx => ∃ (mr : Bool) (p : Nat → Bool), a = .bool mr ∧ Hid (Blk wx w.heap.size 4 (bcs n p)) ∧ Hid (Below w.heap.size w wx) ∧ Hid (RrI X Y m f C p) ∧ Hid (mr = false → ∀ k, k < m → p (X k).toNat = true → p (Y k).toNat = true) ∧ Hid ((if mr = true then cntF n p + 1 else 0) ≤ gm))
      case atStart => exact ⟨true, o, rfl, HB, HW, HR, fun h => (by cases h), Nat.le_refl _⟩
      case round =>
        clear HB HW HR
        obtain ⟨mr, p, rfl, HB, HW, HR, HCL, HG⟩ := hrel
        cases mr with
        | false =>
          go_wp2_with fail
          go_ret
          exact ⟨w.heap.size, p, rfl, Nat.le_refl _, blk_bl HB.out, fun v _ => rch_done HR.out.hit HR.out.src (HCL.out (by trivial)) v, HW.out⟩
        | true =>
          clear HCL
          have HG1 : Hid (cntF n p + 1 ≤ gk) := by have := HG.out; rwa [if_pos rfl] at this
          clear HG
          go_wp2_with fail
          go_loopw [9, 10] (fun a b wy => ∃ (mr : Bool) (k : Nat) (q : Nat → Bool), a = .bool mr ∧ b = .int .i64 k ∧ Hid (k ≤ m) ∧ Hid (Blk wy w.heap.size 4 (bcs n q)) ∧ Hid (Below w.heap.size w wy) ∧ Hid (RrJ X Y m f n C p q mr k)) (fun _ b _ => m - (RowKit.intOf b).toNat)
          case atStart => exact ⟨false, 0, p, rfl, rfl, Nat.zero_le _, HB, HW, HR.out, fun _ => ⟨rfl, fun j hj => absurd hj (Nat.not_lt_zero _)⟩, fun h => (by cases h)⟩
          case round =>
            clear HB HW
            obtain ⟨mr, k, q, rfl, rfl, Hk, HB, HW, HJ⟩ := hrel
            by_cases hlt : k < m
            · have T1 : decide ((k : Int) < (m : Int)) = true := by simp <;> omega
              have T1' : decide (k < m) = true := decide_eq_true hlt
              obtain ⟨k', hk'⟩ : ∃ z, z = k + 1 := ⟨_, rfl⟩
              have x1 : IntKind.i64.wrap ((k : Int) + 1) = (k' : Int) := by have := HM.out; rw [IntKind.wrap_i64]; omega
              have HK' : Hid (k' ≤ m ∧ k' = k + 1) := ⟨by omega, hk'⟩
              have HMS : Hid (m - (RowKit.intOf (Value.int .i64 (k' : Int))).toNat < m - (RowKit.intOf (Value.int .i64 (k : Int))).toNat) := by show _ < _; simp [RowKit.intOf]; omega
              have k2 : (0 : Int) ≤ (k : Int) := by omega
              have k3 : (k : Int) < (m : Int) := by omega
              have HLT := Lib.hid hlt
              obtain ⟨b, off, hA, hb, c1, c2⟩ := (HT.out.below (Nat.le_refl _) HW.out).at hlt
              subst hA
              have hx := HE.out.x k hlt
              have hy := HE.out.y k hlt
              obtain ⟨x, hxx⟩ : ∃ x : Nat, X k = (x : Int) := ⟨(X k).toNat, by omega⟩
              obtain ⟨y, hyy⟩ : ∃ y : Nat, Y k = (y : Int) := ⟨(Y k).toNat, by omega⟩
              rw [hxx] at c1
              rw [hyy] at c2
              have hxn : x < n := by omega
              have hyn : y < n := by omega
              have HXX : Hid (X k = (x : Int) ∧ Y k = (y : Int)) := ⟨hxx, hyy⟩
              have HYN := Lib.hid hyn
              have k4 : (0 : Int) ≤ (x : Int) := by omega
              have k5 : (x : Int) < (n : Int) := by omega
              have k6 : (0 : Int) ≤ (y : Int) := by omega
              have k7 : (y : Int) < (n : Int) := by omega
              have c3 := HB.out.cell x
              rw [bcs_at hxn] at c3
              have c4 := HB.out.cell y
              rw [bcs_at hyn] at c4
              have f0 := HB.out.frozen y
              have HB5 : Hid (Blk (wr.setCell ⟨w.heap.size, y, none⟩ (.bool true)) w.heap.size 4 (bcs n (bset q y))) := by
                have := HB.out.set_ y (.bool true)
                rwa [bcs_set] at this
              have HW5 : Hid (Below w.heap.size w (wr.setCell ⟨w.heap.size, y, none⟩ (.bool true))) := HW.out.setCell (p := ⟨w.heap.size, y, none⟩) (Nat.le_refl _) _
              obtain ⟨dx, hdx⟩ : ∃ d, q x = d := ⟨_, rfl⟩
              rw [hdx] at c3
              obtain ⟨dy, hdy⟩ : ∃ d, q y = d := ⟨_, rfl⟩
              rw [hdy] at c4
              have HDX := Lib.hid hdx
              have HDY := Lib.hid hdy
              clear hk' hxx hyy hx hy hxn hyn hdx hdy hlt hb
              cases dx with
              | false =>
                go_wp2_with fail
                go_roundw
                case rel => exact ⟨mr, k', q, rfl, rfl, HK'.out.1, HB, HW, HJ.out.pass HK'.out.2 HXX.out.1 HXX.out.2 (.inl HDX.out)⟩
                case measure => exact HMS.out
              | true =>
                cases dy with
                | true =>
                  go_wp2_with fail
                  go_roundw
                  case rel => exact ⟨mr, k', q, rfl, rfl, HK'.out.1, HB, HW, HJ.out.pass HK'.out.2 HXX.out.1 HXX.out.2 (.inr HDY.out)⟩
                  case measure => exact HMS.out
                | false =>
                  go_wp2_with fail
                  go_roundw
                  case rel => exact ⟨true, k', bset q y, rfl, rfl, HK'.out.1, HB5, HW5, HJ.out.mark HK'.out.2 HLT.out HXX.out.1 HXX.out.2 HYN.out HDX.out HDY.out⟩
                  case measure => exact HMS.out
            · have e : k = m := by have := Hk.out; omega
              have T1 : decide ((k : Int) < (m : Int)) = false := by simp <;> omega
              have T1' : decide (k < m) = false := decide_eq_false hlt
              have HKE := Lib.hid e
              clear hlt e
              go_wp2_with fail
              go_roundg (if mr = true then cntF n q + 1 else 0)
              case rel =>
                refine ⟨mr, q, rfl, HB, HW, HJ.out.inv, fun hm j hj h1 => ?_, Nat.le_refl _⟩
                obtain ⟨e1, h2⟩ := HJ.out.no hm
                rw [e1] at h1 ⊢
                exact h2 j (by rw [HKE.out]; exact hj) h1
              case measure =>
                have h1 := HG1.out
                cases mr with
                | false => simp; omega
                | true => have := HJ.out.yes rfl; simp; omega
end Go.Proofs.YtghefgifhebniaaGreatDoor

namespace Go.Proofs.YtghefgifhebniaaGreatDoor
open Go.RowKit Go.Sort
set_option linter.unusedVariables false
set_option linter.unusedSimpArgs false

set_option maxRecDepth 100000 in
set_option maxHeartbeats 8000000 in
theorem rnames (NA LA : Option Addr) (n nc m lc O : Nat) (D : Nds) (o : Nat → Bool) (w : World) (hn : n ≤ 300) (hD : NdIn w NA n D) (ho : BlAt w O n o) :
    Calls Tryz.prog 27 #[.agg #[.slice NA n nc, .slice LA m lc], .slice (some ⟨O, 0, none⟩) n n] w fun e w' => ∃ u, e = .returned u ∧ RMem w w' u (nmL D o n).length (nmL D o n) := by
  obtain ⟨s0, hs0', hy0, hy1, hy2⟩ := info_parts1 infoS
  have SI0 := Lib.hid hs0'
  have SZ0 := Lib.hid hy0
  have SZ1 := Lib.hid hy1
  have SZ2 := Lib.hid hy2
  have HN := Lib.hid hn
  have HD := Lib.hid hD
  have HBO := Lib.hid ho
  clear hs0' hy0 hy1 hy2 hn hD ho
  go_enter Tryz.func27, Tryz.ntmps27
  go_upto_region 1 with fail
  have HBG : Hid (Blk (w.alloc (Obj.cells #[.slice NA n nc, .slice LA m lc] 25)) w.heap.size 25 #[.slice NA n nc, .slice LA m lc]) := Blk.new _ _ _
  have HW1 : Hid (Below w.heap.size w (w.alloc (Obj.cells #[.slice NA n nc, .slice LA m lc] 25))) := (Below.refl _ w).alloc (Nat.le_refl _) _
  have HLW : Hid (w.heap.size < (w.alloc (Obj.cells #[.slice NA n nc, .slice LA m lc] 25)).heap.size) := HBG.out.lt
  generalize w.alloc (Obj.cells #[.slice NA n nc, .slice LA m lc] 25) = w1 at HBG HW1 HLW ⊢
  go_wp2_with fail
  obtain ⟨wz, hwz⟩ : ∃ wz : World, wz = w1 := ⟨_, rfl⟩
  go_loopw [5, 6] (fun u x wr => ∃ j : Nat, x = .int .i64 j ∧ Hid (j ≤ n) ∧ Hid (wr.ownsRow w1.heap.size 9 1 u (nmL D o j).length (sc (nmL D o j))) ∧ Hid (Blk wr w.heap.size 25 #[.slice NA n nc, .slice LA m lc]) ∧ Hid (Below w1.heap.size w1 wr)) (fun _ x _ => n - (RowKit.intOf x).toNat)
  case atStart => exact ⟨0, rfl, Nat.zero_le _, World.ownsRow_nil _ _ _ _, HBG, Below.refl _ _⟩
  case round =>
    clear HBG hwz
    obtain ⟨j, rfl, Hj, HO, HB, HWx⟩ := hrel
    obtain ⟨A3, cap3, h8⟩ := nr_form HO.out
    subst h8
    obtain ⟨N3, hN3⟩ : ∃ N3, (nmL D o j).length = N3 := ⟨_, rfl⟩
    rw [hN3] at HO ⊢
    have HN3 := Lib.hid hN3
    clear hN3
    obtain ⟨y0, y1⟩ := two_cells HB.out
    by_cases hlt : j < n
    · have T0 : decide ((j : Int) < (n : Int)) = true := by simp <;> omega
      have T0' : decide (j < n) = true := decide_eq_true hlt
      obtain ⟨j', hj'⟩ : ∃ z, z = j + 1 := ⟨_, rfl⟩
      have x0 : IntKind.i64.wrap ((j : Int) + 1) = (j' : Int) := by have := HN.out; rw [IntKind.wrap_i64]; omega
      have HJ' : Hid (j' ≤ n ∧ j' = j + 1) := ⟨by omega, hj'⟩
      have HMS : Hid (n - (RowKit.intOf (Value.int .i64 (j' : Int))).toNat < n - (RowKit.intOf (Value.int .i64 (j : Int))).toNat) := by show _ < _; simp [RowKit.intOf]; omega
      have k0 : (0 : Int) ≤ (j : Int) := by omega
      have k1 : (j : Int) < (n : Int) := by omega
      obtain ⟨bn, on, hNA, hbn, hC, _⟩ := (HD.out.below (Nat.le_refl _) (below_step HW1.out HWx.out)).at hlt
      subst hNA
      have c0 := hC 0 _ rfl
      simp only [Nat.add_zero] at c0
      have HRS := Lib.hid (nmL_succ D o j)
      have HL2 : Hid (N3 ≤ 300) := by show _ ≤ _; have := nmL_len D o j; have := HN.out; have := HN3.out; omega
      have c1 := (HBO.out.below (below_step HW1.out HWx.out)).2 j hlt
      have HSZ := Lib.hid HWx.out.size
      obtain ⟨ob, hob⟩ : ∃ z, o j = z := ⟨_, rfl⟩
      rw [hob] at c1
      have HOB := Lib.hid hob
      obtain ⟨vy, hvy⟩ : ∃ z, D.Nm j = z := ⟨_, rfl⟩
      rw [hvy] at c0
      have HVY := Lib.hid hvy
      clear hj' hlt hC hbn hob hvy
      cases ob with
      | true =>
        go_wp2_with (first
          | (at_builtin; refine wpList_append_own_at _ ?q2_1 (.tmp 24) (.tmp 31) 41 ?q2_2 w1.heap.size 9 s0 (.string ByteArray.empty) 1 16 Tryz.underlying41 SI0.out SZ0.out SZ1.out SZ2.out ?q2_3 ?q2_4 (.slice A3 N3 cap3) N3 (sc (nmL D o j)) ?q2_5 (HO.out.alloc _) ⟨wr.heap.size, 0, none⟩ 1 1 [.string vy] ?q2_7 (rfl) (World.news_of_block (cs := #[.string vy]) (t := 9) (fr := (0, 0)) (heap_alloc_new _ _)) (by simp [Value.oneCell']) (h63_w HL2.out) (hby_w HL2.out) (base_alloc1 HSZ.out _) ?q2_14
             case q2_1 => exact rfl
             case q2_2 => exact rfl
             case q2_3 => exact rfl
             case q2_4 => decide
             case q2_5 => exact rfl
             case q2_7 => exact rfl
             intro u2 w7 hown2 hgrow2 hnil2 hat2
             have HO7 := Lib.hid hown2
             have HG7 := Lib.hid hgrow2
             clear hown2 hgrow2 hnil2 hat2))
        go_roundw
        case rel =>
          refine ⟨j', rfl, HJ'.out.1, ?_, ?_, ?_⟩
          · rw [HJ'.out.2, HRS.out, if_pos HOB.out, HVY.out, sc_append, List.length_append, HN3.out]
            exact HO7.out
          · exact (HB.out.alloc _).grown HG7.out (fun e => by have := (HO.out.lt _ e.symm).1; have := HLW.out; omega)
          · exact below_grown (HWx.out.alloc HWx.out.size _) (by have := HWx.out.size; simp; omega) HG7.out (fun g' e => (HO.out.lt g' e).1)
        case measure => exact HMS.out
      | false =>
        go_wp2_with fail
        go_roundw
        case rel =>
          refine ⟨j', rfl, HJ'.out.1, ?_, HB, HWx⟩
          rw [HJ'.out.2, HRS.out, if_neg (by rw [HOB.out]; simp), List.append_nil, HN3.out]
          exact HO.out
        case measure => exact HMS.out
    · have e : j = n := by have := Hj.out; omega
      have T0 : decide ((j : Int) < (n : Int)) = false := by simp <;> omega
      have T0' : decide (j < n) = false := decide_eq_false hlt
      have HJE := Lib.hid e
      clear hlt e
      go_wp2_with fail
      go_ret
      refine ⟨_, rfl, ?_, ?_⟩
      · have := HO.out
        have hn3 := HN3.out
        rw [HJE.out] at hn3 this
        rw [hn3]
        exact own_lower this (Nat.le_of_lt HLW.out)
      · exact below_step HW1.out HWx.out
end Go.Proofs.YtghefgifhebniaaGreatDoor

namespace Go.Proofs.YtghefgifhebniaaGreatDoor
open Go.RowKit Go.Sort
set_option linter.unusedVariables false
set_option linter.unusedSimpArgs false

/-- What stands in the loop of Ways. -/
structure WyI (w w2 wr : World) (NA LA A : Option Addr) (n nc m lc : Nat) (X Y : Nat → Int) (k : Nat) (u : Value) (L : List Int) : Prop where
  tab : TabIn wr A m (swp k X Y) (swp k Y X)
  net : Blk wr w.heap.size 25 #[.slice NA n nc, .slice LA m lc]
  own : wr.ownsRow w2.heap.size 3 1 u L.length (ic L)
  bl : Below w.heap.size w wr
  at_ : m ≠ 0 → ∃ g off cs, A = some ⟨g, off, none⟩ ∧ w.heap.size < g ∧ g < w2.heap.size ∧ Blk wr g 38 cs
  sz : w.heap.size < w2.heap.size ∧ w2.heap.size ≤ wr.heap.size
theorem WyI.abv {w w2 wr : World} {NA LA A : Option Addr} {n nc m lc : Nat} {X Y : Nat → Int} {k : Nat} {u : Value} {L : List Int} (h : WyI w w2 wr NA LA A n nc m lc X Y k u L) : AbvI w wr NA LA A n nc m lc X Y k :=
  ⟨h.tab, h.net, h.bl, fun hm => by obtain ⟨g, off, cs, a, b, _, c⟩ := h.at_ hm; exact ⟨g, off, cs, a, b, c⟩⟩
theorem WyI.call {w w2 wr w' : World} {NA LA A : Option Addr} {n nc m lc : Nat} {X Y : Nat → Int} {k : Nat} {u : Value} {L : List Int} (h : WyI w w2 wr NA LA A n nc m lc X Y k u L) (hb : Below wr.heap.size wr w') : WyI w w2 w' NA LA A n nc m lc X Y k u L :=
  ⟨h.tab.below (Nat.le_refl _) hb, h.net.call hb, own_below h.own hb, below_step h.bl hb, fun hm => by obtain ⟨g, off, cs, a, b, b2, c⟩ := h.at_ hm; exact ⟨g, off, cs, a, b, b2, c.call hb⟩, h.sz.1, Nat.le_trans h.sz.2 hb.size⟩
theorem WyI.turn {w w2 wr : World} {NA LA : Option Addr} {n nc m lc g off k : Nat} {X Y : Nat → Int} {u : Value} {L : List Int} (h : WyI w w2 wr NA LA (some ⟨g, off, none⟩) n nc m lc X Y k u L) (hk : k < m) : WyI w w2 ((wr.setCell ⟨g, off + k * 2, none⟩ (.int .i64 (Y k))).setCell ⟨g, off + k * 2 + 1, none⟩ (.int .i64 (X k))) NA LA (some ⟨g, off, none⟩) n nc m lc X Y (k + 1) u L := by
  have ha := h.abv.turn hk
  obtain ⟨g', off', cs, e, hg, hg2, hb⟩ := h.at_ (by omega)
  cases e
  refine ⟨ha.tab, ha.net, own_set_far (own_set_far h.own hg2) hg2, ha.bl, fun hm => ?_, ?_⟩
  · obtain ⟨g1, o1, cs1, e1, _, b1⟩ := ha.at_ hm
    cases e1
    exact ⟨g, off, cs1, rfl, hg, hg2, b1⟩
  · refine ⟨h.sz.1, ?_⟩
    have := h.sz.2
    simpa [World.setCell] using this
theorem WyI.app {w w2 wr w7 : World} {NA LA A : Option Addr} {n nc m lc k : Nat} {X Y : Nat → Int} {u u' : Value} {L : List Int} {y : Int} {tmp : Obj} (h : WyI w w2 wr NA LA A n nc m lc X Y k u L) (hown : w7.ownsRow w2.heap.size 3 1 u' (L.length + 1) (ic L ++ [.int .i64 y])) (hg : (wr.alloc tmp).grownBy w7 u.ownBlock) : WyI w w2 w7 NA LA A n nc m lc X Y k u' (L ++ [y]) := by
  have hal : Below wr.heap.size wr (wr.alloc tmp) := (Below.refl _ wr).alloc (Nat.le_refl _) tmp
  have hs := h.sz
  have hl : ∀ g, u.ownBlock = some g → w2.heap.size ≤ g := fun g e => (h.own.lt g e).1
  refine ⟨?_, (h.net.alloc tmp).grown hg (fun e => by have := hl _ e.symm; omega), ?_, ?_, fun hm => ?_, hs.1, ?_⟩
  · refine (h.tab.below (Nat.le_refl _) hal).grown hg (fun hn b off e e2 => ?_)
    obtain ⟨g, o, cs, e1, _, e3, _⟩ := h.at_ hn
    rw [e1] at e
    cases e
    have := hl _ e2.symm
    omega
  · rw [ic_append, List.length_append]; exact hown
  · exact below_grown (h.bl.alloc (by omega) tmp) (by simp; omega) hg (fun g e => by have := hl g e; omega)
  · obtain ⟨g, o, cs, e1, e2, e3, e4⟩ := h.at_ hm
    exact ⟨g, o, cs, e1, e2, e3, (e4.alloc tmp).grown hg (fun e => by have := hl _ e.symm; omega)⟩
  · have := hg.size
    have h2 := hal.size
    omega
theorem WyI.get {w w2 wr : World} {NA LA A : Option Addr} {n nc m lc k i : Nat} {X Y : Nat → Int} {u : Value} {L : List Int} (h : WyI w w2 wr NA LA A n nc m lc X Y k u L) (hi : i < m) : ∃ g off cs, A = some ⟨g, off, none⟩ ∧ Blk wr g 38 cs ∧ wr.cell? ⟨g, off + i * 2, none⟩ = some (.int .i64 (swp k X Y i)) ∧ wr.cell? ⟨g, off + i * 2 + 1, none⟩ = some (.int .i64 (swp k Y X i)) := by
  obtain ⟨g, off, cs, e, _, _, hb⟩ := h.at_ (by omega)
  subst e
  rcases h.tab.2 with h0 | ⟨b, o, e, ht⟩
  · omega
  cases e
  exact ⟨g, off, cs, rfl, hb, (ht.2 i hi).1, (ht.2 i hi).2⟩
/-- What comes back. -/
def RWyPost (n : Nat) (X Y : Nat → Int) (m : Nat) (q : Int) (w : World) (e : Ending) (w' : World) : Prop :=
  ∃ (O : Nat) (o : Nat → Bool), e = .returned (.slice (some ⟨O, 0, none⟩) n n) ∧ BlAt w' O n o ∧ (∀ v, v < n → o v = wayB X Y m q v) ∧ Below w.heap.size w w'
theorem way_o {n m N : Nat} {X Y C : Nat → Int} {q : Int} {o : Nat → Bool} (hC : ∀ z, srcP N C z ↔ nextP X Y m q z) (ho : ∀ v, v < n → (o v = true ↔ Rch X Y m (srcP N C) (v : Int))) : ∀ v, v < n → o v = wayB X Y m q v := fun v hv => by
  have h1 := ho v hv
  have h2 : o v = true ↔ wayB X Y m q v = true := by
    rw [h1, wayB_iff]
    exact ⟨fun h => h.mono fun z hz => (hC z).1 hz, fun h => h.mono fun z hz => (hC z).2 hz⟩
  cases h3 : o v with
  | true => exact (h2.1 h3).symm
  | false =>
    cases h4 : wayB X Y m q v with
    | false => rfl
    | true => have := h2.2 h4; rw [h3] at this; cases this
theorem tgt_src {X Y : Nat → Int} {m N : Nat} {q : Int} (hN : (tgt X Y m q).length = N) (z : Int) : srcP N (fun j => (tgt X Y m q).getD j 0) z ↔ nextP X Y m q z := by
  constructor
  · rintro ⟨j, hj, e⟩
    have h1 : j < (tgt X Y m q).length := by omega
    refine mem_tgt.1 ?_
    rw [← e]
    simp [List.getD, h1]
  · intro h
    obtain ⟨j, hj, e⟩ := List.mem_iff_getElem.1 (mem_tgt.2 h)
    exact ⟨j, by omega, by simp [List.getD, hj, e]⟩
theorem tgt_in {X Y : Nat → Int} {m N B : Nat} {q : Int} {w : World} {A : Option Addr} {c : Nat} (hN : (tgt X Y m q).length = N) (h : w.ownsRow B 3 1 (.slice A N c) N (ic (tgt X Y m q))) (hb : N ≤ 2000) : IntIn w A N (fun j => (tgt X Y m q).getD j 0) := by
  refine ⟨by omega, ?_⟩
  rcases h.2 with ⟨hv, h0⟩ | ⟨g, cap, cur, hv, _⟩
  · exact .inl h0
  · cases hv
    refine .inr ⟨g, 0, rfl, (h.lt g rfl).2, fun j hj => ?_⟩
    rw [Nat.zero_add, h.cellAt j (by omega)]
    exact ic_get (by rw [hN]; exact hj)
theorem swp_at (k : Nat) (F G : Nat → Int) : swp k F G k = F k := by unfold swp; rw [if_neg (Nat.lt_irrefl k)]
theorem swp_in {k i : Nat} (h : i < k) (F G : Nat → Int) : swp k F G i = G i := by unfold swp; rw [if_pos h]
theorem swp_zero (F G : Nat → Int) (i : Nat) : swp 0 F G i = F i := by unfold swp; rw [if_neg (Nat.not_lt_zero i)]
set_option maxRecDepth 100000 in
set_option maxHeartbeats 8000000 in
theorem rways_true (NA LA : Option Addr) (n nc m lc : Nat) (D : Nds) (K : Lks) (q : Nat) (hz : NetSz D n K m) (hv : netP D n K m) (w : World) (hD : NdIn w NA n D) (hK : LkIn w LA m K) :
    Calls Tryz.prog 28 #[.agg #[.slice NA n nc, .slice LA m lc], .int .i64 (q : Int), .bool true] w (RWyPost n (eY D n K) (eX D n K) m (q : Int) w) := by
  obtain ⟨i0, hi0, hz0, hz1, hz2⟩ := info_parts1 infoI
  have HI0 := Lib.hid hi0
  have HZ0 := Lib.hid hz0
  have HZ1 := Lib.hid hz1
  have HZ2 := Lib.hid hz2
  have hE := netP_ed hv
  have HNM : Hid (n ≤ 300 ∧ m ≤ 400) := ⟨hv.1, hv.2.1⟩
  have HM : Hid (m ≤ 2000) := by show _ ≤ _; have := hv.2.1; omega
  have SE : Hid (∀ w', Below w.heap.size w w' → Calls Tryz.prog 21 #[.agg #[.slice NA n nc, .slice LA m lc]] w' (EdPost m (eX D n K) (eY D n K) w')) := fun w' hb => redges NA LA n nc m lc D K w' hz.n2 hz.m2 (hD.below (Nat.le_refl _) hb) (hK.below (Nat.le_refl _) hb)
  clear hi0 hz0 hz1 hz2 hz hv hD hK
  generalize eX D n K = X at hE SE ⊢
  generalize eY D n K = Y at hE SE ⊢
  have HE := Lib.hid hE
  clear hE
  go_enter Tryz.func28, Tryz.ntmps28
  go_upto_region 1 with fail
  have HBG : Hid (Blk (w.alloc (Obj.cells #[.slice NA n nc, .slice LA m lc] 25)) w.heap.size 25 #[.slice NA n nc, .slice LA m lc]) := Blk.new _ _ _
  have HW1 : Hid (Below w.heap.size w (w.alloc (Obj.cells #[.slice NA n nc, .slice LA m lc] 25))) := (Below.refl _ w).alloc (Nat.le_refl _) _
  generalize w.alloc (Obj.cells #[.slice NA n nc, .slice LA m lc] 25) = w1 at HBG HW1 ⊢
  obtain ⟨y0, y1⟩ := two_cells HBG.out
  go_upto_region 2 with (first
    | (go_at_call 21
       with_reducible refine (SE.out _ HW1.out).mono ?_
       rintro e w2 ⟨u, rfl, ho⟩
       have HO := Lib.hid ho
       obtain ⟨A2, c2, rfl, ht2⟩ := ho.tab HM.out
       obtain ⟨g, off, hg1, hg2⟩ := ho.blk' rfl
       have HI : Hid (WyI w w2 w2 NA LA A2 n nc m lc X Y 0 (.slice none 0 0) []) := ⟨ht2.congr fun i hi => ⟨(swp_zero _ _ _).symm, (swp_zero _ _ _).symm⟩, HBG.out.call ho.2, World.ownsRow_nil _ _ _ _, below_step HW1.out ho.2, fun hm => by
         obtain ⟨a, b⟩ := hg1 hm
         obtain ⟨cs, hcs⟩ := hg2 hm
         exact ⟨g, off, cs, a, by have := HBG.out.lt; omega, hcs.lt, hcs⟩, by have := HBG.out.lt; have := ho.2.size; omega, Nat.le_refl _⟩
       clear ho ht2 hg1 hg2))
  clear SE HBG HW1 HO y0 y1
  go_wp2_with fail
  obtain ⟨wz, hwz⟩ : ∃ wz : World, wz = w2 := ⟨_, rfl⟩
  go_loopw [8, 9] (fun u x wr => ∃ k : Nat, x = .int .i64 k ∧ Hid (k ≤ m) ∧ Hid (WyI w w2 wr NA LA A2 n nc m lc X Y k u (tgt Y X k (q : Int)))) (fun _ x _ => m - (RowKit.intOf x).toNat)
  case atStart => exact ⟨0, rfl, Nat.zero_le _, HI.out⟩
  case round =>
    clear HI hwz
    obtain ⟨k, rfl, Hk, HI⟩ := hrel
    obtain ⟨A0, cap0, h8⟩ := nr_form HI.out.own
    subst h8
    obtain ⟨N, hN⟩ : ∃ N, (tgt Y X k (q : Int)).length = N := ⟨_, rfl⟩
    have HNN := Lib.hid hN
    rw [hN] at HI ⊢
    by_cases hlt : k < m
    · have T0 : decide ((k : Int) < (m : Int)) = true := by simp <;> omega
      have T0' : decide (k < m) = true := decide_eq_true hlt
      obtain ⟨k', hk'⟩ : ∃ z, z = k + 1 := ⟨_, rfl⟩
      have x0 : IntKind.i64.wrap ((k : Int) + 1) = (k' : Int) := by have := HM.out; rw [IntKind.wrap_i64]; omega
      have HK' : Hid (k' ≤ m ∧ k' = k + 1) := ⟨by omega, hk'⟩
      have HMS : Hid (m - (RowKit.intOf (Value.int .i64 (k' : Int))).toNat < m - (RowKit.intOf (Value.int .i64 (k : Int))).toNat) := by show _ < _; simp [RowKit.intOf]; omega
      have k0 : (0 : Int) ≤ (k : Int) := by omega
      have k1 : (k : Int) < (m : Int) := by omega
      have HLT := Lib.hid hlt
      have HRS := Lib.hid (tgt_succ Y X k (q : Int))
      have HL2 : Hid (N ≤ 2000) := by show _ ≤ _; have := tgt_len Y X k (q : Int); have := HM.out; have := HNN.out; omega
      obtain ⟨g, off, cs, hA, hb, c0, c1⟩ := HI.out.get hlt
      subst hA
      rw [swp_at] at c0 c1
      clear hk' hN hlt
      have f0 := hb.frozen (off + k * 2)
      have f1 := hb.frozen (off + k * 2 + 1)
      have HI5 := Lib.hid ((HI.out.turn HLT.out).call (Below.refl _ _).drew)
      obtain ⟨x, hx⟩ : ∃ z, X k = z := ⟨_, rfl⟩
      obtain ⟨y, hy⟩ : ∃ z, Y k = z := ⟨_, rfl⟩
      rw [hx] at c0 HI5
      rw [hy] at c1 HI5
      clear hb HI
      go_upto_region 7 with fail
      go_region
      go_upto_region 8 with fail
      generalize ((wr.setCell ⟨g, off + k * 2, none⟩ (.int .i64 y)).setCell ⟨g, off + k * 2 + 1, none⟩ (.int .i64 x)).drew = w5 at HI5 ⊢
      clear c0 c1 f0 f1
      obtain ⟨g', off', cs', hA', hb, c0, c1⟩ := HI5.out.get HLT.out
      cases hA'
      rw [swp_in (Nat.lt_succ_self k)] at c0 c1
      rw [hy] at c0
      rw [hx] at c1
      have HXY : Hid (Y k = y ∧ X k = x) := ⟨hy, hx⟩
      clear hx hy hb
      have HSZ := Lib.hid HI5.out.sz.2
      have HOW := Lib.hid HI5.out.own
      by_cases hx : y = (q : Int)
      · subst hx
        go_wp2_with (first
          | (at_builtin; refine wpList_append_own_at _ ?q1_1 (.tmp 40) (.tmp 46) 32 ?q1_2 w2.heap.size 3 i0 (.int .i64 0) 1 8 Tryz.underlying32 HI0.out HZ0.out HZ1.out HZ2.out ?q1_3 ?q1_4 (.slice A0 N cap0) N (ic (tgt Y X k (q : Int))) ?q1_5 ((by have := HOW.out; rw [HNN.out] at this; exact this.alloc _)) ⟨w5.heap.size, 0, none⟩ 1 1 [.int .i64 x] ?q1_7 (rfl) (World.news_of_block (cs := #[.int .i64 x]) (t := 3) (fr := (0, 0)) (heap_alloc_new _ _)) (by simp [Value.oneCell']) (h63_n HL2.out) (hby_n HL2.out) (base_alloc1 HSZ.out _) ?q1_14
             case q1_1 => exact rfl
             case q1_2 => exact rfl
             case q1_3 => exact rfl
             case q1_4 => decide
             case q1_5 => exact rfl
             case q1_7 => exact rfl
             intro u2 w7 hown2 hgrow2 hnil2 hat2
             have HO7 := Lib.hid hown2
             have HG7 := Lib.hid hgrow2
             clear hown2 hgrow2 hnil2 hat2))
        go_roundw
        case rel =>
          refine ⟨k', rfl, HK'.out.1, ?_⟩
          rw [HK'.out.2, HRS.out, if_pos HXY.out.1, HXY.out.2]
          have h5 := HI5.out
          have h7 := HO7.out
          have h8 := HG7.out
          rw [← HNN.out] at h7
          exact h5.app h7 h8
        case measure => exact HMS.out
      · have t0 : (y == (q : Int)) = false := by simpa using hx
        have t1 : decide (y = (q : Int)) = false := decide_eq_false hx
        have HX := Lib.hid hx
        clear hx
        go_wp2_with fail
        go_roundw
        case rel =>
          refine ⟨k', rfl, HK'.out.1, ?_⟩
          rw [HK'.out.2, HRS.out, HXY.out.1, if_neg HX.out, List.append_nil]
          exact HI5.out
        case measure => exact HMS.out
    · have e : k = m := by have := Hk.out; omega
      have T0 : decide ((k : Int) < (m : Int)) = false := by simp <;> omega
      have T0' : decide (k < m) = false := decide_eq_false hlt
      subst e
      obtain ⟨y0, y1⟩ := two_cells HI.out.net
      have HNK : Hid (N ≤ 400) := by show _ ≤ _; have := tgt_len Y X k (q : Int); have := HNM.out.2; have := HNN.out; omega
      have HOW : Hid (wr.ownsRow w2.heap.size 3 1 (.slice A0 N cap0) N (ic (tgt Y X k (q : Int)))) := by have := HI.out.own; rw [hN] at this; exact this
      clear hlt Hk hN
      have S3 : Hid (Calls Tryz.prog 62 #[.int .i64 (n : Int), .slice A2 k c2, .slice A0 N cap0] wr (ReachPost n Y X k (srcP N (fun j => (tgt Y X k (q : Int)).getD j 0)) wr)) :=
        rreach A2 A0 n k c2 N cap0 Y X _ wr HNM.out.1 (by have := HNM.out.2; omega) (by have := HNK.out; omega) ⟨HE.out.y, HE.out.x⟩ (HI.out.tab.congr fun i hi => ⟨swp_in hi _ _, swp_in hi _ _⟩) (tgt_in HNN.out HOW.out (by have := HNK.out; omega)) (fun j hj => by
          obtain ⟨z, hz, _, e⟩ := (tgt_src HNN.out _).1 ⟨j, hj, rfl⟩
          dsimp only at e ⊢
          rw [← e]
          exact HE.out.x z hz)
      go_wp2_with (first
        | (go_at_call 62
           with_reducible refine S3.out.mono ?_
           rintro e w8 ⟨O, o, rfl, hO, hbl, ho, hb8⟩
           have HBL := Lib.hid hbl
           have HOO := Lib.hid ho
           have HW8 := Lib.hid hb8
           clear hO hbl ho hb8))
      go_ret
      exact ⟨O, o, rfl, HBL.out, way_o (tgt_src HNN.out) HOO.out, below_step HI.out.bl HW8.out⟩
set_option maxRecDepth 100000 in
set_option maxHeartbeats 8000000 in
theorem rways_false (NA LA : Option Addr) (n nc m lc : Nat) (D : Nds) (K : Lks) (q : Nat) (hz : NetSz D n K m) (hv : netP D n K m) (w : World) (hD : NdIn w NA n D) (hK : LkIn w LA m K) :
    Calls Tryz.prog 28 #[.agg #[.slice NA n nc, .slice LA m lc], .int .i64 (q : Int), .bool false] w (RWyPost n (eX D n K) (eY D n K) m (q : Int) w) := by
  obtain ⟨i0, hi0, hz0, hz1, hz2⟩ := info_parts1 infoI
  have HI0 := Lib.hid hi0
  have HZ0 := Lib.hid hz0
  have HZ1 := Lib.hid hz1
  have HZ2 := Lib.hid hz2
  have hE := netP_ed hv
  have HNM : Hid (n ≤ 300 ∧ m ≤ 400) := ⟨hv.1, hv.2.1⟩
  have HM : Hid (m ≤ 2000) := by show _ ≤ _; have := hv.2.1; omega
  have SE : Hid (∀ w', Below w.heap.size w w' → Calls Tryz.prog 21 #[.agg #[.slice NA n nc, .slice LA m lc]] w' (EdPost m (eX D n K) (eY D n K) w')) := fun w' hb => redges NA LA n nc m lc D K w' hz.n2 hz.m2 (hD.below (Nat.le_refl _) hb) (hK.below (Nat.le_refl _) hb)
  clear hi0 hz0 hz1 hz2 hz hv hD hK
  generalize eX D n K = X at hE SE ⊢
  generalize eY D n K = Y at hE SE ⊢
  have HE := Lib.hid hE
  clear hE
  go_enter Tryz.func28, Tryz.ntmps28
  go_upto_region 1 with fail
  have HBG : Hid (Blk (w.alloc (Obj.cells #[.slice NA n nc, .slice LA m lc] 25)) w.heap.size 25 #[.slice NA n nc, .slice LA m lc]) := Blk.new _ _ _
  have HW1 : Hid (Below w.heap.size w (w.alloc (Obj.cells #[.slice NA n nc, .slice LA m lc] 25))) := (Below.refl _ w).alloc (Nat.le_refl _) _
  generalize w.alloc (Obj.cells #[.slice NA n nc, .slice LA m lc] 25) = w1 at HBG HW1 ⊢
  obtain ⟨y0, y1⟩ := two_cells HBG.out
  go_upto_region 2 with (first
    | (go_at_call 21
       with_reducible refine (SE.out _ HW1.out).mono ?_
       rintro e w2 ⟨u, rfl, ho⟩
       have HO := Lib.hid ho
       obtain ⟨A2, c2, rfl, ht2⟩ := ho.tab HM.out
       obtain ⟨g, off, hg1, hg2⟩ := ho.blk' rfl
       have HI : Hid (WyI w w2 w2 NA LA A2 n nc m lc X Y 0 (.slice none 0 0) []) := ⟨ht2.congr fun i hi => ⟨(swp_zero _ _ _).symm, (swp_zero _ _ _).symm⟩, HBG.out.call ho.2, World.ownsRow_nil _ _ _ _, below_step HW1.out ho.2, fun hm => by
         obtain ⟨a, b⟩ := hg1 hm
         obtain ⟨cs, hcs⟩ := hg2 hm
         exact ⟨g, off, cs, a, by have := HBG.out.lt; omega, hcs.lt, hcs⟩, by have := HBG.out.lt; have := ho.2.size; omega, Nat.le_refl _⟩
       clear ho ht2 hg1 hg2))
  clear SE HBG HW1 HO y0 y1
  go_wp2_with fail
  obtain ⟨wz, hwz⟩ : ∃ wz : World, wz = w2 := ⟨_, rfl⟩
  go_loopw [8, 9] (fun u x wr => ∃ k : Nat, x = .int .i64 k ∧ Hid (k ≤ m) ∧ Hid (WyI w w2 wr NA LA A2 n nc m lc X Y 0 u (tgt X Y k (q : Int)))) (fun _ x _ => m - (RowKit.intOf x).toNat)
  case atStart => exact ⟨0, rfl, Nat.zero_le _, HI.out⟩
  case round =>
    clear HI hwz
    obtain ⟨k, rfl, Hk, HI⟩ := hrel
    obtain ⟨A0, cap0, h8⟩ := nr_form HI.out.own
    subst h8
    obtain ⟨N, hN⟩ : ∃ N, (tgt X Y k (q : Int)).length = N := ⟨_, rfl⟩
    have HNN := Lib.hid hN
    rw [hN] at HI ⊢
    by_cases hlt : k < m
    · have T0 : decide ((k : Int) < (m : Int)) = true := by simp <;> omega
      have T0' : decide (k < m) = true := decide_eq_true hlt
      obtain ⟨k', hk'⟩ : ∃ z, z = k + 1 := ⟨_, rfl⟩
      have x0 : IntKind.i64.wrap ((k : Int) + 1) = (k' : Int) := by have := HM.out; rw [IntKind.wrap_i64]; omega
      have HK' : Hid (k' ≤ m ∧ k' = k + 1) := ⟨by omega, hk'⟩
      have HMS : Hid (m - (RowKit.intOf (Value.int .i64 (k' : Int))).toNat < m - (RowKit.intOf (Value.int .i64 (k : Int))).toNat) := by show _ < _; simp [RowKit.intOf]; omega
      have k0 : (0 : Int) ≤ (k : Int) := by omega
      have k1 : (k : Int) < (m : Int) := by omega
      have HLT := Lib.hid hlt
      have HRS := Lib.hid (tgt_succ X Y k (q : Int))
      have HL2 : Hid (N ≤ 2000) := by show _ ≤ _; have := tgt_len X Y k (q : Int); have := HM.out; have := HNN.out; omega
      obtain ⟨g, off, cs, hA, hb, c0, c1⟩ := HI.out.get hlt
      subst hA
      rw [swp_zero] at c0 c1
      clear hk' hN hlt
      obtain ⟨y, hy⟩ : ∃ z, X k = z := ⟨_, rfl⟩
      obtain ⟨x, hx⟩ : ∃ z, Y k = z := ⟨_, rfl⟩
      rw [hy] at c0
      rw [hx] at c1
      have HXY : Hid (X k = y ∧ Y k = x) := ⟨hy, hx⟩
      have HI5 := Lib.hid HI.out
      clear hx hy hb HI
      obtain ⟨w5, hw5⟩ : ∃ w5 : World, wr = w5 := ⟨_, rfl⟩
      subst hw5
      have HSZ := Lib.hid HI5.out.sz.2
      have HOW := Lib.hid HI5.out.own
      by_cases hx : y = (q : Int)
      · subst hx
        go_wp2_with (first
          | (at_builtin; refine wpList_append_own_at _ ?q1_1 (.tmp 40) (.tmp 46) 32 ?q1_2 w2.heap.size 3 i0 (.int .i64 0) 1 8 Tryz.underlying32 HI0.out HZ0.out HZ1.out HZ2.out ?q1_3 ?q1_4 (.slice A0 N cap0) N (ic (tgt X Y k (q : Int))) ?q1_5 ((by have := HOW.out; rw [HNN.out] at this; exact this.alloc _)) ⟨wr.heap.size, 0, none⟩ 1 1 [.int .i64 x] ?q1_7 (rfl) (World.news_of_block (cs := #[.int .i64 x]) (t := 3) (fr := (0, 0)) (heap_alloc_new _ _)) (by simp [Value.oneCell']) (h63_n HL2.out) (hby_n HL2.out) (base_alloc1 HSZ.out _) ?q1_14
             case q1_1 => exact rfl
             case q1_2 => exact rfl
             case q1_3 => exact rfl
             case q1_4 => decide
             case q1_5 => exact rfl
             case q1_7 => exact rfl
             intro u2 w7 hown2 hgrow2 hnil2 hat2
             have HO7 := Lib.hid hown2
             have HG7 := Lib.hid hgrow2
             clear hown2 hgrow2 hnil2 hat2))
        go_roundw
        case rel =>
          refine ⟨k', rfl, HK'.out.1, ?_⟩
          rw [HK'.out.2, HRS.out, if_pos HXY.out.1, HXY.out.2]
          have h5 := HI5.out
          have h7 := HO7.out
          have h8 := HG7.out
          rw [← HNN.out] at h7
          exact h5.app h7 h8
        case measure => exact HMS.out
      · have t0 : (y == (q : Int)) = false := by simpa using hx
        have t1 : decide (y = (q : Int)) = false := decide_eq_false hx
        have HX := Lib.hid hx
        clear hx
        go_wp2_with fail
        go_roundw
        case rel =>
          refine ⟨k', rfl, HK'.out.1, ?_⟩
          rw [HK'.out.2, HRS.out, HXY.out.1, if_neg HX.out, List.append_nil]
          exact HI5.out
        case measure => exact HMS.out
    · have e : k = m := by have := Hk.out; omega
      have T0 : decide ((k : Int) < (m : Int)) = false := by simp <;> omega
      have T0' : decide (k < m) = false := decide_eq_false hlt
      subst e
      obtain ⟨y0, y1⟩ := two_cells HI.out.net
      have HNK : Hid (N ≤ 400) := by show _ ≤ _; have := tgt_len X Y k (q : Int); have := HNM.out.2; have := HNN.out; omega
      have HOW : Hid (wr.ownsRow w2.heap.size 3 1 (.slice A0 N cap0) N (ic (tgt X Y k (q : Int)))) := by have := HI.out.own; rw [hN] at this; exact this
      clear hlt Hk hN
      have S3 : Hid (Calls Tryz.prog 62 #[.int .i64 (n : Int), .slice A2 k c2, .slice A0 N cap0] wr (ReachPost n X Y k (srcP N (fun j => (tgt X Y k (q : Int)).getD j 0)) wr)) :=
        rreach A2 A0 n k c2 N cap0 X Y _ wr HNM.out.1 (by have := HNM.out.2; omega) (by have := HNK.out; omega) HE.out (HI.out.tab.congr fun i hi => ⟨swp_zero _ _ _, swp_zero _ _ _⟩) (tgt_in HNN.out HOW.out (by have := HNK.out; omega)) (fun j hj => by
          obtain ⟨z, hz, _, e⟩ := (tgt_src HNN.out _).1 ⟨j, hj, rfl⟩
          dsimp only at e ⊢
          rw [← e]
          exact HE.out.y z hz)
      go_wp2_with (first
        | (go_at_call 62
           with_reducible refine S3.out.mono ?_
           rintro e w8 ⟨O, o, rfl, hO, hbl, ho, hb8⟩
           have HBL := Lib.hid hbl
           have HOO := Lib.hid ho
           have HW8 := Lib.hid hb8
           clear hO hbl ho hb8))
      go_ret
      exact ⟨O, o, rfl, HBL.out, way_o (tgt_src HNN.out) HOO.out, below_step HI.out.bl HW8.out⟩
end Go.Proofs.YtghefgifhebniaaGreatDoor

namespace Go.Proofs.YtghefgifhebniaaGreatDoor
open Go.RowKit Go.Sort
set_option linter.unusedVariables false
set_option linter.unusedSimpArgs false

theorem eq_sown {B B' : Nat} {u u' : Value} {L : List ByteArray} {w : World} (h : w.ownsRow B 9 1 u L.length (sc L)) (h' : w.ownsRow B' 9 1 u' L.length (sc L)) (hl : L.length ≤ 2000) : Calls Tryz.prog 26 #[u, u'] w fun e w' => e = .returned (.bool true) ∧ Below w.heap.size w w' := by
  by_cases hL : L = []
  · subst hL
    obtain ⟨A, c, rfl⟩ := nr_form h
    obtain ⟨A', c', rfl⟩ := nr_form h'
    refine (Tryz.slices_Equal_string_empty A A' c 0 c' w (by omega)).mono ?_
    rintro e w' ⟨he, rfl⟩
    exact ⟨by rw [he]; rfl, Below.refl _ _⟩
  · obtain ⟨g, c, rfl, hg, hc⟩ := own_strs h hL
    obtain ⟨g', c', rfl, hg', hc'⟩ := own_strs h' hL
    refine (Tryz.slices_Equal_string g 0 L.length c g' 0 L.length c' L L w (Nat.le_refl _) (Nat.le_refl _) (by omega) (by omega) hc hc').mono ?_
    rintro e w' ⟨he, q, rfl⟩
    exact ⟨by rw [he]; simp, below_drewN (Below.refl _ _) _⟩
set_option maxRecDepth 100000 in
set_option maxHeartbeats 8000000 in
theorem netways (NA LA : Option Addr) (n nc m lc : Nat) (D : Nds) (K : Lks) (s : ByteArray) (w : World) (hD : NdIn w NA n D) (hK : LkIn w LA m K) (hE : Env w) :
    Calls Tryz.prog 4 #[.agg #[.slice NA n nc, .slice LA m lc], .string s] w fun e w' => e = .returned (.bool true) ∧ Below w.heap.size w w' := by
  have hal : Below w.heap.size w (w.alloc (Obj.cells #[.slice NA n nc, .slice LA m lc] 25)) := (Below.refl _ w).alloc (Nat.le_refl _) _
  have HAL := Lib.hid hal
  have HB0 : Hid (Blk (w.alloc (Obj.cells #[.slice NA n nc, .slice LA m lc] 25)) w.heap.size 25 #[.slice NA n nc, .slice LA m lc]) := Blk.new _ _ _
  have HE0 := Lib.hid (hE.below hal)
  have HD := Lib.hid hD
  have HK := Lib.hid hK
  clear hD hK hE hal
  obtain ⟨V, hV⟩ : ∃ V, Hid (V = boolOf (lgP D n K m)) := ⟨_, rfl⟩
  go_enter Tryz.func4, Tryz.ntmps4
  go_upto_region 3 with (first
    | (go_at_call 14
       with_reducible refine (awake26 _ HE0.out).mono ?_
       rintro e w1 ⟨rfl, hb1⟩
       have HB1 := Lib.hid (below_step HAL.out hb1)
       have HBB := Lib.hid (HB0.out.call hb1)
       clear hb1))
  obtain ⟨y0, y1⟩ := blk2 HBB.out
  have SL : Hid (Calls Tryz.prog 15 #[.agg #[.slice NA n nc, .slice LA m lc]] w1 fun e w' => e = .returned (.bool V) ∧ Below w1.heap.size w1 w') := by rw [hV.out]; exact tlarge NA LA n nc m lc D K w1 (HD.out.below (Nat.le_refl _) HB1.out) (HK.out.below (Nat.le_refl _) HB1.out)
  by_cases hl : lgP D n K m
  · obtain rfl : V = true := hV.out.trans (boolOf_true hl)
    clear hl hV
    go_wp2_with (first
      | (go_at_call 15
         with_reducible refine SL.out.mono ?_
         rintro e w2 ⟨rfl, hb2⟩
         have HB2 := Lib.hid (below_step HB1.out hb2)
         clear hb2))
    go_ret
    exact ⟨rfl, HB2.out⟩
  obtain rfl : V = false := hV.out.trans (boolOf_false hl)
  have HZ := Lib.hid (lg_sz hl)
  clear hl hV
  by_cases hs : 100 < s.size
  · have T0 : decide ((100 : Int) < (s.size : Int)) = true := decide_eq_true (by omega)
    have T0' : decide (100 < s.size) = true := decide_eq_true hs
    clear hs
    go_wp2_with (first
      | (go_at_call 15
         with_reducible refine SL.out.mono ?_
         rintro e w2 ⟨rfl, hb2⟩
         have HB2 := Lib.hid (below_step HB1.out hb2)
         clear hb2))
    go_ret
    exact ⟨rfl, HB2.out⟩
  have T0 : decide ((100 : Int) < (s.size : Int)) = false := decide_eq_false (by omega)
  have T0' : decide (100 < s.size) = false := decide_eq_false hs
  clear hs
  have SV : Hid (∀ w', Below w.heap.size w w' → Calls Tryz.prog 18 #[.agg #[.slice NA n nc, .slice LA m lc]] w' fun e w'' => e = .returned (.bool (boolOf (netP D n K m))) ∧ Below w'.heap.size w' w'') := fun w' hb => wvalidN NA LA n nc m lc D K HZ.out w' (HD.out.below (Nat.le_refl _) hb) (HK.out.below (Nat.le_refl _) hb)
  by_cases hP : netP D n K m
  case neg =>
    rw [boolOf_false hP] at SV
    have SA : Hid (∀ w', Below w.heap.size w w' → Calls Tryz.prog 23 #[.agg #[.slice NA n nc, .slice LA m lc], .string s] w' fun e w'' => e = .returned (.tuple #[.slice none 0 0, .int .i64 1]) ∧ Below w'.heap.size w' w'') := fun w' hb => by
      refine (tnabove NA LA n nc m lc D K s HZ.out w' (HD.out.below (Nat.le_refl _) hb) (HK.out.below (Nat.le_refl _) hb)).mono ?_
      rintro e w'' (⟨_, h1, h2⟩ | ⟨h, _⟩)
      · exact ⟨h1, h2⟩
      · exact absurd h hP
    have SB : Hid (∀ w', Below w.heap.size w w' → Calls Tryz.prog 24 #[.agg #[.slice NA n nc, .slice LA m lc], .string s] w' fun e w'' => e = .returned (.tuple #[.slice none 0 0, .int .i64 1]) ∧ Below w'.heap.size w' w'') := fun w' hb => by
      refine (tnbelow NA LA n nc m lc D K s HZ.out w' (HD.out.below (Nat.le_refl _) hb) (HK.out.below (Nat.le_refl _) hb)).mono ?_
      rintro e w'' (⟨_, h1, h2⟩ | ⟨h, _⟩)
      · exact ⟨h1, h2⟩
      · exact absurd h hP
    clear hP
    go_wp2_with (first
      | (go_at_call 15
         with_reducible refine (SL.out).mono ?_
         rintro e w2 ⟨rfl, hb2⟩
         have HB2 := Lib.hid (below_step HB1.out hb2)
         have HX2 := Lib.hid (HBB.out.call hb2)
         obtain ⟨y0, y1⟩ := blk2 HX2.out
         clear hb2)
      | (go_at_call 23
         with_reducible refine (SA.out _ HB2.out).mono ?_
         rintro e w3 ⟨rfl, hb2⟩
         have HB3 := Lib.hid (below_step HB2.out hb2)
         have HX3 := Lib.hid (HX2.out.call hb2)
         obtain ⟨y0, y1⟩ := blk2 HX3.out
         clear hb2)
      | (go_at_call 24
         with_reducible refine (SB.out _ HB3.out).mono ?_
         rintro e w4 ⟨rfl, hb2⟩
         have HB4 := Lib.hid (below_step HB3.out hb2)
         have HX4 := Lib.hid (HX3.out.call hb2)
         obtain ⟨y0, y1⟩ := blk2 HX4.out
         clear hb2)
      | (go_at_call 18
         with_reducible refine (SV.out _ HB4.out).mono ?_
         rintro e w5 ⟨rfl, hb2⟩
         have HB5 := Lib.hid (below_step HB4.out hb2)
         have HX5 := Lib.hid (HX4.out.call hb2)
         obtain ⟨y0, y1⟩ := blk2 HX5.out
         clear hb2))
    go_ret
    exact ⟨rfl, HB5.out⟩
  rw [boolOf_true hP] at SV
  have HP := Lib.hid hP
  have HN2 : Hid (n ≤ 2000 ∧ m ≤ 2000) := ⟨HZ.out.n2, HZ.out.m2⟩
  have SF : Hid (∀ w', Below w.heap.size w w' → Calls Tryz.prog 25 #[.agg #[.slice NA n nc, .slice LA m lc], .string s] w' fun e w'' => e = .returned (.int .i64 (fnd D.Nm n s)) ∧ Below w'.heap.size w' w'') := fun w' hb => r_node NA LA n nc m lc D s w' HZ.out.n2 (HD.out.below (Nat.le_refl _) hb)
  have hbd := fnd_bd D.Nm n s
  by_cases hneg : fnd D.Nm n s < 0
  case pos =>
    have SA : Hid (∀ w', Below w.heap.size w w' → Calls Tryz.prog 23 #[.agg #[.slice NA n nc, .slice LA m lc], .string s] w' fun e w'' => e = .returned (.tuple #[.slice none 0 0, .int .i64 9]) ∧ Below w'.heap.size w' w'') := fun w' hb => by
      refine (tnabove NA LA n nc m lc D K s HZ.out w' (HD.out.below (Nat.le_refl _) hb) (HK.out.below (Nat.le_refl _) hb)).mono ?_
      rintro e w'' (⟨h, _⟩ | ⟨_, ⟨_, h1, h2⟩ | ⟨h, _⟩⟩)
      · exact absurd hP h
      · exact ⟨h1, h2⟩
      · omega
    have SB : Hid (∀ w', Below w.heap.size w w' → Calls Tryz.prog 24 #[.agg #[.slice NA n nc, .slice LA m lc], .string s] w' fun e w'' => e = .returned (.tuple #[.slice none 0 0, .int .i64 9]) ∧ Below w'.heap.size w' w'') := fun w' hb => by
      refine (tnbelow NA LA n nc m lc D K s HZ.out w' (HD.out.below (Nat.le_refl _) hb) (HK.out.below (Nat.le_refl _) hb)).mono ?_
      rintro e w'' (⟨h, _⟩ | ⟨_, ⟨_, h1, h2⟩ | ⟨h, _⟩⟩)
      · exact absurd hP h
      · exact ⟨h1, h2⟩
      · omega
    generalize fnd D.Nm n s = q at SF hneg hbd
    have t1 : decide (q < 0) = true := decide_eq_true hneg
    clear hP hneg hbd
    go_wp2_with (first
      | (go_at_call 15
         with_reducible refine (SL.out).mono ?_
         rintro e w2 ⟨rfl, hb2⟩
         have HB2 := Lib.hid (below_step HB1.out hb2)
         have HX2 := Lib.hid (HBB.out.call hb2)
         obtain ⟨y0, y1⟩ := blk2 HX2.out
         clear hb2)
      | (go_at_call 23
         with_reducible refine (SA.out _ HB2.out).mono ?_
         rintro e w3 ⟨rfl, hb2⟩
         have HB3 := Lib.hid (below_step HB2.out hb2)
         have HX3 := Lib.hid (HX2.out.call hb2)
         obtain ⟨y0, y1⟩ := blk2 HX3.out
         clear hb2)
      | (go_at_call 24
         with_reducible refine (SB.out _ HB3.out).mono ?_
         rintro e w4 ⟨rfl, hb2⟩
         have HB4 := Lib.hid (below_step HB3.out hb2)
         have HX4 := Lib.hid (HX3.out.call hb2)
         obtain ⟨y0, y1⟩ := blk2 HX4.out
         clear hb2)
      | (go_at_call 18
         with_reducible refine (SV.out _ HB4.out).mono ?_
         rintro e w5 ⟨rfl, hb2⟩
         have HB5 := Lib.hid (below_step HB4.out hb2)
         have HX5 := Lib.hid (HX4.out.call hb2)
         obtain ⟨y0, y1⟩ := blk2 HX5.out
         clear hb2)
      | (go_at_call 25
         with_reducible refine (SF.out _ HB5.out).mono ?_
         rintro e w6 ⟨rfl, hb2⟩
         have HB6 := Lib.hid (below_step HB5.out hb2)
         have HX6 := Lib.hid (HX5.out.call hb2)
         obtain ⟨y0, y1⟩ := blk2 HX6.out
         clear hb2))
    go_ret
    exact ⟨rfl, HB6.out⟩
  obtain ⟨q, hq⟩ : ∃ q : Nat, fnd D.Nm n s = (q : Int) := ⟨(fnd D.Nm n s).toNat, by omega⟩
  have HQN : Hid (q < n) := by
    show q < n
    rcases hbd with h | ⟨k, hk, e, _⟩
    · omega
    · omega
  have SA : Hid (∀ w', Below w.heap.size w w' → Calls Tryz.prog 23 #[.agg #[.slice NA n nc, .slice LA m lc], .string s] w' fun e w'' => ∃ u, e = .returned (.tuple #[u, .int .i64 0]) ∧ w''.ownsRow w'.heap.size 9 1 u (nmL D (wayB (eY D n K) (eX D n K) m (q : Int)) n).length (sc (nmL D (wayB (eY D n K) (eX D n K) m (q : Int)) n)) ∧ Below w'.heap.size w' w'') := fun w' hb => by
    refine (tnabove NA LA n nc m lc D K s HZ.out w' (HD.out.below (Nat.le_refl _) hb) (HK.out.below (Nat.le_refl _) hb)).mono ?_
    rintro e w'' (⟨h, _⟩ | ⟨_, ⟨h, _⟩ | ⟨_, u, h1, h2⟩⟩)
    · exact absurd hP h
    · omega
    · rw [hq] at h2
      exact ⟨u, h1, h2.1, h2.2⟩
  have SB : Hid (∀ w', Below w.heap.size w w' → Calls Tryz.prog 24 #[.agg #[.slice NA n nc, .slice LA m lc], .string s] w' fun e w'' => ∃ u, e = .returned (.tuple #[u, .int .i64 0]) ∧ w''.ownsRow w'.heap.size 9 1 u (nmL D (wayB (eX D n K) (eY D n K) m (q : Int)) n).length (sc (nmL D (wayB (eX D n K) (eY D n K) m (q : Int)) n)) ∧ Below w'.heap.size w' w'') := fun w' hb => by
    refine (tnbelow NA LA n nc m lc D K s HZ.out w' (HD.out.below (Nat.le_refl _) hb) (HK.out.below (Nat.le_refl _) hb)).mono ?_
    rintro e w'' (⟨h, _⟩ | ⟨_, ⟨h, _⟩ | ⟨_, u, h1, h2⟩⟩)
    · exact absurd hP h
    · omega
    · rw [hq] at h2
      exact ⟨u, h1, h2.1, h2.2⟩
  rw [hq] at SF
  clear hP hneg hbd hq
  have SX : Hid (∀ w', Below w.heap.size w w' → Calls Tryz.prog 28 #[.agg #[.slice NA n nc, .slice LA m lc], .int .i64 (q : Int), .bool true] w' fun e w'' => ∃ O o, e = .returned (.slice (some ⟨O, 0, none⟩) n n) ∧ BlAt w'' O n o ∧ (∀ v, v < n → o v = wayB (eY D n K) (eX D n K) m (q : Int) v) ∧ Below w'.heap.size w' w'') := fun w' hb => by
    refine (rways_true NA LA n nc m lc D K q HZ.out HP.out w' (HD.out.below (Nat.le_refl _) hb) (HK.out.below (Nat.le_refl _) hb)).mono ?_
    rintro e w'' ⟨O, o, h1, h2, h3, h4⟩
    exact ⟨O, o, h1, h2, h3, h4⟩
  have SY : Hid (∀ w', Below w.heap.size w w' → Calls Tryz.prog 28 #[.agg #[.slice NA n nc, .slice LA m lc], .int .i64 (q : Int), .bool false] w' fun e w'' => ∃ O o, e = .returned (.slice (some ⟨O, 0, none⟩) n n) ∧ BlAt w'' O n o ∧ (∀ v, v < n → o v = wayB (eX D n K) (eY D n K) m (q : Int) v) ∧ Below w'.heap.size w' w'') := fun w' hb => by
    refine (rways_false NA LA n nc m lc D K q HZ.out HP.out w' (HD.out.below (Nat.le_refl _) hb) (HK.out.below (Nat.le_refl _) hb)).mono ?_
    rintro e w'' ⟨O, o, h1, h2, h3, h4⟩
    exact ⟨O, o, h1, h2, h3, h4⟩
  have SM : Hid (∀ w' O o o', Below w.heap.size w w' → BlAt w' O n o → (∀ v, v < n → o v = o' v) → Calls Tryz.prog 27 #[.agg #[.slice NA n nc, .slice LA m lc], .slice (some ⟨O, 0, none⟩) n n] w' fun e w'' => ∃ u, e = .returned u ∧ w''.ownsRow w'.heap.size 9 1 u (nmL D o' n).length (sc (nmL D o' n)) ∧ Below w'.heap.size w' w'') := fun w' O o o' hb ho he => by
    refine (rnames NA LA n nc m lc O D o w' HP.out.1 (HD.out.below (Nat.le_refl _) hb) ho).mono ?_
    rintro e w'' ⟨u, h1, h2⟩
    rw [nmL_congr he] at h2
    exact ⟨u, h1, h2.1, h2.2⟩
  have HLA : Hid (∀ o, (nmL D o n).length ≤ 2000) := fun o => by have := nmL_len D o n; have := HN2.out.1; omega
  have T1 : decide ((q : Int) < 0) = false := decide_eq_false (by omega)
  generalize wayB (eY D n K) (eX D n K) m (q : Int) = oA at SA SX
  generalize wayB (eX D n K) (eY D n K) m (q : Int) = oB at SB SY
  go_upto_region 12 with (first
    | (go_at_call 15
       with_reducible refine (SL.out).mono ?_
       rintro e w2 ⟨rfl, hb2⟩
       have HB2 := Lib.hid (below_step HB1.out hb2)
       have HX2 := Lib.hid (HBB.out.call hb2)
       obtain ⟨y0, y1⟩ := blk2 HX2.out
       clear hb2)
    | (go_at_call 23
       with_reducible refine (SA.out _ HB2.out).mono ?_
       rintro e w3 ⟨u3, rfl, ho, hb2⟩
       have HB3 := Lib.hid (below_step HB2.out hb2)
       have HX3 := Lib.hid (HX2.out.call hb2)
       obtain ⟨y0, y1⟩ := blk2 HX3.out
       obtain ⟨A3, c3, rfl⟩ := nr_form ho
       have HO3 := Lib.hid ho
       clear ho
       clear hb2)
    | (go_at_call 24
       with_reducible refine (SB.out _ HB3.out).mono ?_
       rintro e w4 ⟨u4, rfl, ho, hb2⟩
       have HB4 := Lib.hid (below_step HB3.out hb2)
       have HX4 := Lib.hid (HX3.out.call hb2)
       obtain ⟨y0, y1⟩ := blk2 HX4.out
       obtain ⟨A4, c4, rfl⟩ := nr_form ho
       have HQ4 := Lib.hid ho
       clear ho
       have HO4 := Lib.hid (own_below HO3.out hb2)
       clear hb2)
    | (go_at_call 18
       with_reducible refine (SV.out _ HB4.out).mono ?_
       rintro e w5 ⟨rfl, hb2⟩
       have HB5 := Lib.hid (below_step HB4.out hb2)
       have HX5 := Lib.hid (HX4.out.call hb2)
       obtain ⟨y0, y1⟩ := blk2 HX5.out
       have HO5 := Lib.hid (own_below HO4.out hb2)
       have HQ5 := Lib.hid (own_below HQ4.out hb2)
       clear hb2)
    | (go_at_call 25
       with_reducible refine (SF.out _ HB5.out).mono ?_
       rintro e w6 ⟨rfl, hb2⟩
       have HB6 := Lib.hid (below_step HB5.out hb2)
       have HX6 := Lib.hid (HX5.out.call hb2)
       obtain ⟨y0, y1⟩ := blk2 HX6.out
       have HO6 := Lib.hid (own_below HO5.out hb2)
       have HQ6 := Lib.hid (own_below HQ5.out hb2)
       clear hb2))
  have hs0 : w6.cell? ⟨w.heap.size, 0, none⟩ = some (.slice NA n nc) ∧ w6.cell? ⟨w.heap.size, 1, none⟩ = some (.slice LA m lc) := blk2 HX6.out
  have HS : Hid (∀ w', Below w6.heap.size w6 w' → w'.cell? ⟨w.heap.size, 0, none⟩ = some (.slice NA n nc) ∧ w'.cell? ⟨w.heap.size, 1, none⟩ = some (.slice LA m lc)) := fun w' hb => blk2 (HX6.out.call hb)
  have SX6 := Lib.hid fun w' (hb : Below w6.heap.size w6 w') => SX.out w' (below_step HB6.out hb)
  have SY6 := Lib.hid fun w' (hb : Below w6.heap.size w6 w') => SY.out w' (below_step HB6.out hb)
  have SM6 := Lib.hid fun w' O o o' (hb : Below w6.heap.size w6 w') => SM.out w' O o o' (below_step HB6.out hb)
  have HOA := Lib.hid fun w' (hb : Below w6.heap.size w6 w') => own_below HO6.out hb
  have HOB := Lib.hid fun w' (hb : Below w6.heap.size w6 w') => own_below HQ6.out hb
  clear SX SY SM SA SB SV SF SL HX6 y0 y1
  go_region_held3 (fun w' => w'.cell? ⟨w.heap.size, 0, none⟩ = some (.slice NA n nc) ∧ w'.cell? ⟨w.heap.size, 1, none⟩ = some (.slice LA m lc)) (first
    | exact hs0
    | exact HS.out _ hq12
    | exact HS.out _ hq11
    | exact HS.out _ hq10
    | exact HS.out _ hq9
    | exact HS.out _ hq8
    | exact HS.out _ hq7
    | exact HS.out _ hq12.drew
    | exact HS.out _ hq11.drew
    | exact HS.out _ hq10.drew
    | exact HS.out _ hq9.drew
    | exact HS.out _ hq8.drew
    | exact HS.out _ hq7.drew
    | exact HS.out _ (Below.refl _ w6).drew) (first
    | (go_at_call 28
       with_reducible refine (SX6.out _ ?_).mono ?_
       focus (first | exact (Below.refl w6.heap.size w6) | exact (Below.refl w6.heap.size w6).drew)
       rintro e w7 ⟨O7, o7, rfl, hbl, hov, hb2⟩
       have hq7 : Below w6.heap.size w6 w7 := by first | exact (Below.refl w6.heap.size w6).trans (hb2.mono (Below.refl w6.heap.size w6).size) | exact (Below.refl w6.heap.size w6).drew.trans (hb2.mono (Below.refl w6.heap.size w6).size)
       have HL7 := Lib.hid fun w' (hb : Below w7.heap.size w7 w') => hbl.below hb
       have HV7 := Lib.hid hov
       clear hbl hov
       clear hb2)
    | (go_at_call 27
       with_reducible refine (SM6.out _ _ _ _ ?_ (HL7.out _ ?_) HV7.out).mono ?_
       focus (first | exact hq7 | exact hq7.drew)
       focus (first | exact Below.refl _ _ | exact (Below.refl _ _).drew)
       rintro e w8 ⟨u8, rfl, ho, hb2⟩
       have hq8 : Below w6.heap.size w6 w8 := by first | exact hq7.trans (hb2.mono hq7.size) | exact hq7.drew.trans (hb2.mono hq7.size)
       obtain ⟨A8, c8, rfl⟩ := nr_form ho
       have HR8 := Lib.hid fun w' (hb : Below w8.heap.size w8 w') => own_below ho hb
       clear ho HL7 HV7
       clear hb2)
    | (go_at_call 26
       with_reducible refine (eq_sown (HOA.out _ ?_) (HR8.out _ ?_) (HLA.out _)).mono ?_
       focus (first | exact hq8 | exact hq8.drew)
       focus (first | exact Below.refl _ _ | exact (Below.refl _ _).drew)
       rintro e w9 ⟨rfl, hb2⟩
       have hq9 : Below w6.heap.size w6 w9 := by first | exact hq8.trans (hb2.mono hq8.size) | exact hq8.drew.trans (hb2.mono hq8.size)
       clear HR8
       clear SX6
       clear hb2)
    | (go_at_call 28
       with_reducible refine (SY6.out _ ?_).mono ?_
       focus (first | exact hq9 | exact hq9.drew)
       rintro e w10 ⟨O10, o10, rfl, hbl, hov, hb2⟩
       have hq10 : Below w6.heap.size w6 w10 := by first | exact hq9.trans (hb2.mono hq9.size) | exact hq9.drew.trans (hb2.mono hq9.size)
       have HL10 := Lib.hid fun w' (hb : Below w10.heap.size w10 w') => hbl.below hb
       have HV10 := Lib.hid hov
       clear hbl hov
       clear hb2)
    | (go_at_call 27
       with_reducible refine (SM6.out _ _ _ _ ?_ (HL10.out _ ?_) HV10.out).mono ?_
       focus (first | exact hq10 | exact hq10.drew)
       focus (first | exact Below.refl _ _ | exact (Below.refl _ _).drew)
       rintro e w11 ⟨u11, rfl, ho, hb2⟩
       have hq11 : Below w6.heap.size w6 w11 := by first | exact hq10.trans (hb2.mono hq10.size) | exact hq10.drew.trans (hb2.mono hq10.size)
       obtain ⟨A11, c11, rfl⟩ := nr_form ho
       have HR11 := Lib.hid fun w' (hb : Below w11.heap.size w11 w') => own_below ho hb
       clear ho HL10 HV10
       clear hb2)
    | (go_at_call 26
       with_reducible refine (eq_sown (HOB.out _ ?_) (HR11.out _ ?_) (HLA.out _)).mono ?_
       focus (first | exact hq11 | exact hq11.drew)
       focus (first | exact Below.refl _ _ | exact (Below.refl _ _).drew)
       rintro e w12 ⟨rfl, hb2⟩
       have hq12 : Below w6.heap.size w6 w12 := by first | exact hq11.trans (hb2.mono hq11.size) | exact hq11.drew.trans (hb2.mono hq11.size)
       clear HR11
       have HQE := Lib.hid hq12
       clear hb2))
  all_goals
    go_wp2_with fail
    go_ret
    exact ⟨rfl, below_step HB6.out HQE.out⟩
end Go.Proofs.YtghefgifhebniaaGreatDoor

namespace Go.Proofs.YtghefgifhebniaaGreatDoor.networkWaysRow
open Go.Proofs.YtghefgifhebniaaGreatDoor Go.RowKit Go.WideShapes Go.ChangeShapes Go.ChangeAt Go.Deep Go.Joins
set_option linter.unusedVariables false
set_option linter.unusedSimpArgs false

theorem star_es : "*" ++ "errors.errorString" = "*errors.errorString" := by decide
theorem row_es (u : TypeId) (h : Tryz.prog.typeName? 3 u = some "*errors.errorString") : u = 238 :=
  typeName_ptr_named (nm := "errors.errorString") (by rw [star_es]; kernel_rfl) (by kernel_rfl) (by decide) u (by rw [star_es]; exact h)
set_option maxRecDepth 100000 in
/-- What the listed variables give. -/
theorem env_of_laid {W : World} (h : laidMetH Tryz.prog Rows.networkWaysRow.laid W) : Env W := by
  rw [MakeChecks.laidMetH_plain _ _ _ (by kernel_rfl)] at h
  have h3 : laidMet Tryz.prog (("internal/strconv.uint64pow10", Lib.tabData .u64 Lib.pow10Tab) :: [("unicode/utf8.acceptRanges", Rows.laid_unicode_utf8_acceptRanges), ("strconv.ErrRange", Rows.laid_strconv_ErrRange), ("strconv.ErrSyntax", Rows.laid_strconv_ErrSyntax), ("unicode/utf8.first", Rows.laid_unicode_utf8_first)]) W := (h.tail).tail
  have ht := Lib.tabIs_of_head (g := 5) (t := 242) (e := 204) (n := 20) (by kernel_rfl) (by kernel_rfl) Tryz.underlying242 Tryz.underlying204 (by kernel_rfl) (by kernel_rfl) h3
  obtain ⟨a1, s1, hv1, _⟩ := laid_sentinel h3.tail.tail (g := 4) (ti := 116) (tp := 238) (te := 240) (ts := 9) (by kernel_rfl) (by kernel_rfl) Tryz.underlying116 row_es Tryz.underlying238 Tryz.underlying240 rfl rfl Tryz.underlying9 (by kernel_rfl) (by kernel_rfl)
  obtain ⟨a2, s2, hv2, _⟩ := laid_sentinel h3.tail.tail.tail (g := 3) (ti := 116) (tp := 238) (te := 240) (ts := 9) (by kernel_rfl) (by kernel_rfl) Tryz.underlying116 row_es Tryz.underlying238 Tryz.underlying240 rfl rfl Tryz.underlying9 (by kernel_rfl) (by kernel_rfl)
  exact ⟨ht, ⟨_, _, hv2⟩, ⟨_, _, hv1⟩⟩
/-- A start that meets the condition. -/
theorem door_met (os : Os) (args : Array Value) : laidMetH Tryz.prog Rows.networkWaysRow.laid ((World.laidAll Tryz.prog os Rows.networkWaysRow.laid).forCall (fun _ _ => 0) ⟨#[], args, []⟩).memory := by
  rw [MakeChecks.laidMetH_plain _ _ _ (by kernel_rfl)]
  exact laidMet_laidAll _ (by kernel_rfl) (by kernel_rfl)
end Go.Proofs.YtghefgifhebniaaGreatDoor.networkWaysRow

/- Merged texts of these proofs: NAx, NEq, AwL, ShelfCt, WyP, Ctn, LDu, OpDu. -/
import Derived.Test.YtghefgifhebniaaGreatDoorMgJ
import Derived.Test.YtghefgifhebniaaGreatDoorMgE
import Derived.Test.YtghefgifhebniaaGreatDoorNetE
import Derived.Test.YtghefgifhebniaaGreatDoorNPr
import Derived.Shelf.Slices.Turned
import Derived.Test.YtghefgifhebniaaGreatDoorProg
import Derived.Test.YtghefgifhebniaaGreatDoorMgD
import Derived.Test.YtghefgifhebniaaGreatDoorMgC
import Derived.Test.YtghefgifhebniaaGreatDoorStrs
import Derived.Test.YtghefgifhebniaaGreatDoorNetW
import Derived.Test.YtghefgifhebniaaGreatDoorRows
import Derived.Test.YtghefgifhebniaaGreatDoorStay
import Derived.Test.YtghefgifhebniaaGreatDoorEnv
import Derived.LaidMore
import Derived.Lay
import Derived.Stop.Joined
import Derived.Stop.LaidErr
import Derived.Lib.LaidTab
namespace Go.Proofs.YtghefgifhebniaaGreatDoor
open Go.RowKit Go.Sort
set_option linter.unusedVariables false
set_option linter.unusedSimpArgs false

def exA : Ndr := ⟨⟨#[97]⟩, 1, 0, 0, 1000, 3000, [(0, 0), (2000, 1500000)], false, 0⟩
def exO : Ndr := ⟨⟨#[111]⟩, 3, 0, 50000, 800, 2000, [], false, 0⟩
def exP : Lkr := ⟨⟨#[112]⟩, ⟨#[97]⟩, ⟨#[111]⟩, 1, 50000, 1000, 900, ⟨#[99, 51, 48, 48]⟩, 0, 0, []⟩
def ex1 : List UInt8 := [109, 97, 110, 104, 111, 108, 101, 32, 97, 32, 48, 32, 48, 32, 49, 48, 48, 48, 32, 51, 48, 48, 48, 32, 48, 58, 48, 32, 50, 48, 48, 48, 58, 49, 53, 48, 48, 48, 48, 48]
def ex2 : List UInt8 := [111, 117, 116, 102, 97, 108, 108, 32, 111, 32, 48, 32, 53, 48, 48, 48, 48, 32, 56, 48, 48, 32, 50, 48, 48, 48]
def ex3 : List UInt8 := [112, 105, 112, 101, 32, 112, 32, 97, 32, 111, 32, 53, 48, 48, 48, 48, 32, 49, 48, 48, 48, 32, 57, 48, 48, 32, 99, 51, 48, 48]
def exS : ByteArray := ⟨(ex1 ++ [10] ++ (ex2 ++ [10] ++ (ex3 ++ [10]))).toArray⟩
theorem num_near {v : Int} (h : near v) : numOK v := atoi_itoa h.1 h.2
theorem near_of {v : Int} (h1 : -1000000 ≤ v) (h2 : v ≤ 10000000) : near v := by unfold near; omega
theorem tabA : tabT [(0, 0), (2000, 1500000)] := by
  refine ⟨by decide, by decide, fun k hk => ?_⟩
  have hk2 : k < 2 := hk
  match k, hk2 with
  | 0, _ => unfold goodAt inB; decide
  | 1, _ => unfold goodAt inB; decide
theorem is_exA : IsNd ex1 exA := ⟨⟨⟨by decide, by decide, by decide⟩, num_near (near_of (by decide) (by decide)), num_near (near_of (by decide) (by decide)), num_near (near_of (by decide) (by decide)), num_near (near_of (by decide) (by decide)), .inl ⟨rfl, tabA, rfl, rfl⟩⟩, by kernel_rfl⟩
theorem is_exO : IsNd ex2 exO := ⟨⟨⟨by decide, by decide, by decide⟩, num_near (near_of (by decide) (by decide)), num_near (near_of (by decide) (by decide)), num_near (near_of (by decide) (by decide)), num_near (near_of (by decide) (by decide)), .inr (.inr ⟨rfl, rfl, rfl, rfl⟩)⟩, by kernel_rfl⟩
theorem is_exP : IsLk ex3 exP := ⟨⟨⟨by decide, by decide, by decide⟩, ⟨by decide, by decide, by decide⟩, ⟨by decide, by decide, by decide⟩, num_near (near_of (by decide) (by decide)), .inl ⟨rfl, num_near (near_of (by decide) (by decide)), num_near (near_of (by decide) (by decide)), ⟨by decide, by decide, by decide⟩, rfl, rfl, rfl⟩⟩, by kernel_rfl⟩
theorem runs_ex : Runs [] [] (rln exS.data.toList) [exA, exO] [exP] := by
  have e : rln exS.data.toList = [ex1 ++ [10], ex2 ++ [10], ex3 ++ [10]] := by decide
  rw [e]
  exact .cons (.inl ⟨ex1, exA, rfl, is_exA, rfl, rfl, rfl⟩) (.cons (.inl ⟨ex2, exO, rfl, is_exO, rfl, rfl, rfl⟩) (.cons (.inr ⟨ex3, exP, rfl, is_exP, rfl, rfl⟩) (.nil _ _)))
def exD : Nds := ndsR [exA, exO] (fun _ => none) (fun _ => 0)
def exK : Lks := lksR [exP] (fun _ => none) (fun _ => 0)
theorem fnd_a (D : Nds) (h0 : D.Nm 0 = ⟨#[97]⟩) : fnd D.Nm 2 ⟨#[97]⟩ = 0 := (fnd_at (k := 0) ⟨by omega, fun j hj => by omega, fun _ => by simp [h0]⟩).trans (by simp)
theorem fnd_o (D : Nds) (h0 : D.Nm 0 = ⟨#[97]⟩) (h1 : D.Nm 1 = ⟨#[111]⟩) : fnd D.Nm 2 ⟨#[111]⟩ = 1 := (fnd_at (k := 1) ⟨by omega, fun j hj => by
  have : j = 0 := by omega
  subst this
  show decide (D.Nm 0 = ⟨#[111]⟩) = false
  rw [h0]; decide, fun _ => by simp [h1]⟩).trans (by simp)
theorem netV_ex : netV [exA, exO] [exP] := by
  unfold netV
  refine ⟨by decide, by decide, fun i hi => ?_, fun i hi => ?_⟩
  · have hi2 : i < 2 := hi
    match i, hi2 with
    | 0, _ =>
      refine ⟨⟨by decide, by show poP 0; decide, by show poP 0; decide, ⟨by show lvP 1000; decide, by show lvP 3000; decide⟩, .inr ⟨.inl rfl, by decide, ⟨tabA, rfl, rfl, rfl, by decide⟩, .inl ⟨rfl, rfl⟩⟩⟩, ?_⟩
      exact fnd_a _ rfl
    | 1, _ =>
      refine ⟨⟨by decide, by show poP 0; decide, by show poP 50000; decide, ⟨by show lvP 800; decide, by show lvP 2000; decide⟩, .inl ⟨rfl, by decide, rfl, rfl, rfl⟩⟩, ?_⟩
      exact fnd_o _ rfl rfl
  · have hi2 : i < 1 := hi
    obtain rfl : i = 0 := by omega
    have h0 := fnd_a (ndsR [exA, exO] (fun _ => none) (fun _ => 0)) rfl
    have h1 := fnd_o (ndsR [exA, exO] (fun _ => none) (fun _ => 0)) rfl rfl
    refine ⟨⟨by decide, by decide, by decide, by decide, by show lvP 1000; decide, by show lvP 900; decide, .inl ⟨rfl, by decide, by decide, rfl, rfl, rfl⟩⟩, ?_, ?_, ?_, ?_⟩
    · exact (fnd_at (k := 0) ⟨by simp, fun j hj => by omega, fun _ => by simp [lksR]⟩).trans (by simp)
    · exact h0.symm ▸ (by decide : (0 : Int) ≤ 0)
    · exact h1.symm ▸ (by decide : (0 : Int) ≤ 1)
    · show (ndsR [exA, exO] (fun _ => none) (fun _ => 0)).Kd (fnd (ndsR [exA, exO] (fun _ => none) (fun _ => 0)).Nm 2 ⟨#[97]⟩).toNat ≠ 3
      rw [h0]; decide
theorem exS_size : exS.size = 99 := rfl
/-- The example: nothing else can Parse answer. -/
theorem ntis_ex {N : List Ndr} {L : List Lkr} {k : Nat} {e : Int} (h : NtIs netV exS.data.toList N L k e) : N = [exA, exO] ∧ L = [exP] ∧ k = 0 ∧ e = 0 :=
  h.uniq (.ok _ _ (by rw [str_size, exS_size]; decide) runs_ex netV_ex)
theorem runs_exs {N : List Ndr} {L : List Lkr} (h : Runs [] [] (rln exS.data.toList) N L) : N.length ≤ 2000 ∧ L.length ≤ 2000 := by
  obtain ⟨rfl, rfl⟩ := h.det runs_ex
  exact ⟨by decide, by decide⟩
/-- One edge. -/
theorem way_one {X Y : Nat → Int} {i j z : Int} (hX : X 0 = i) (hY : Y 0 = j) : WayP X Y 1 i z ↔ z = j := by
  constructor
  · intro h
    refine Rch.closed (P := fun z => z = j) ?_ ?_ h
    · rintro z ⟨k, hk, _, hk2⟩
      obtain rfl : k = 0 := by omega
      rw [← hk2]; exact hY
    · intro k hk _
      obtain rfl : k = 0 := by omega
      exact hY
  · rintro rfl
    exact .src ⟨0, by omega, hX, hY⟩
theorem ord_one {X Y : Nat → Int} (hX : X 0 = 0) (hY : Y 0 = 1) : ordO 2 X Y 1 = [0, 1] := by
  have r2 : List.range 2 = [0, 1] := rfl
  have r1 : List.range 1 = [0] := rfl
  have p0 : pick 2 X Y 1 [] = some 0 := by
    have h0 : rdyB X Y 1 [] 0 = true := by unfold rdyB; rw [r1]; simp [hY]
    unfold pick; rw [r2, List.find?_cons, h0]
  have p1 : pick 2 X Y 1 [0] = some 1 := by
    have h0 : rdyB X Y 1 [0] 0 = false := by unfold rdyB; simp
    have h1 : rdyB X Y 1 [0] 1 = true := by unfold rdyB; rw [r1]; simp [hX]
    unfold pick; rw [r2, List.find?_cons, h0, List.find?_cons, h1]
  unfold ordO
  show ordL 2 X Y 1 2 [] = _
  rw [show ordL 2 X Y 1 2 [] = (match pick 2 X Y 1 [] with | none => [] | some v => ordL 2 X Y 1 1 ([] ++ [(v : Int)])) from rfl, p0]
  show ordL 2 X Y 1 1 [0] = _
  rw [show ordL 2 X Y 1 1 [0] = (match pick 2 X Y 1 [0] with | none => [0] | some v => ordL 2 X Y 1 0 ([0] ++ [(v : Int)])) from rfl, p1]
  rfl
theorem ordR_one {X Y : Nat → Int} (hX : X 0 = 0) (hY : Y 0 = 1) : ordR 2 X Y 1 = [0, 1] ∧ ordE 2 X Y 1 = 0 := by
  unfold ordR ordE
  rw [ord_one hX hY]
  exact ⟨rfl, rfl⟩
theorem nm_below {D : Nds} {X Y : Nat → Int} (h1 : D.Nm 1 = ⟨#[111]⟩) (hX : X 0 = 0) (hY : Y 0 = 1) : nmL D (wayB X Y 1 0) 2 = [⟨#[111]⟩] := by
  have w0 : wayB X Y 1 0 0 = false := by
    cases h : wayB X Y 1 0 0 with
    | false => rfl
    | true => have := (way_one hX hY).1 (wayB_iff.1 h); simp at this
  have w1 : wayB X Y 1 0 1 = true := wayB_iff.2 ((way_one hX hY).2 rfl)
  rw [nmL_succ, nmL_succ, w0, w1, h1]; rfl
theorem nm_above {D : Nds} {X Y : Nat → Int} (h0 : D.Nm 0 = ⟨#[97]⟩) (hX : X 0 = 1) (hY : Y 0 = 0) : nmL D (wayB X Y 1 1) 2 = [⟨#[97]⟩] := by
  have w1 : wayB X Y 1 1 1 = false := by
    cases h : wayB X Y 1 1 1 with
    | false => rfl
    | true => have := (way_one hX hY).1 (wayB_iff.1 h); simp at this
  have w0 : wayB X Y 1 1 0 = true := wayB_iff.2 ((way_one hX hY).2 rfl)
  rw [nmL_succ, nmL_succ, w0, w1, h0]; rfl
end Go.Proofs.YtghefgifhebniaaGreatDoor

namespace Go.Proofs.YtghefgifhebniaaGreatDoor
open Go.RowKit
set_option linter.unusedVariables false
set_option linter.unusedSimpArgs false

@[go_sem] theorem eq_pair (a b c d : Int) (w : World) : (Op.equalIn 10000 38 (.agg #[.int .i64 a, .int .i64 b]) (.agg #[.int .i64 c, .int .i64 d])).run Tryz.prog w = .ok (a == c && b == d) w := by
  have u3 := Tryz.underlying3
  have a3 := Tryz.isAgg3
  have z3 := Tryz.sizeOf3
  rw [show (10000 : Nat) = 9999 + 1 from rfl, Op.equalIn]
  simp only [Sem.run_bind, run_underlying Tryz.underlying38, Result.andThen_ok]
  simp only [Std.Legacy.Range.forIn_eq_forIn_range', Std.Legacy.Range.size, Nat.sub_zero, Nat.add_sub_cancel, Nat.div_one, List.range'_succ, List.range'_zero, List.forIn_cons, List.forIn_nil]
  go_simp
  by_cases h1 : a = c <;> by_cases h2 : b = d <;> simp [h1, h2]
set_option maxHeartbeats 2000000 in
theorem eequal (A B : Option Addr) (n m c d : Nat) (X Y X' Y' : Nat → Int) (w : World) (hA : TabIn w A n X Y) (hB : TabIn w B m X' Y') :
    Calls Tryz.prog 20 #[.slice A n c, .slice B m d] w fun e w' => e = .returned (.bool (boolOf (tabEq n X Y m X' Y'))) ∧ Below w.heap.size w w' := by
  have HA := Lib.hid hA
  have HB := Lib.hid hB
  have H2 := Lib.hid hA.1
  obtain ⟨f, hf⟩ : ∃ f, Hid (f = boolOf (tabEq n X Y m X' Y')) := ⟨_, rfl⟩
  rw [← hf.out]
  by_cases hnm : n = m
  case neg =>
    obtain rfl : f = false := by rw [hf.out]; exact boolOf_false fun h => hnm h.1
    have t1 : (n == m) = false := by simpa using hnm
    have t2 : (n != m) = true := by simpa using hnm
    have t3 : ((n : Int) == (m : Int)) = false := by rw [beq_eq_false_iff_ne]; omega
    have t4 : ((n : Int) != (m : Int)) = true := by simp; omega
    clear hA hB hnm hf
    go_enter Tryz.func20, Tryz.ntmps20
    go_wp2_with fail
    go_ret
    exact ⟨rfl, Below.refl _ _⟩
  case pos =>
  subst hnm
  clear hA hB
  go_enter Tryz.func20, Tryz.ntmps20
  go_wp2_with fail
  go_loopw [13] (fun u wr => ∃ i : Nat, Hid (i ≤ n) ∧ u = .int .i64 i ∧ Hid (∀ j, j < i → X j = X' j ∧ Y j = Y' j) ∧ Hid (Below w.heap.size w wr)) (fun u _ => n - (RowKit.intOf u).toNat)
  case atStart => exact ⟨0, Nat.zero_le _, rfl, fun j hj => absurd hj (Nat.not_lt_zero _), Below.refl _ _⟩
  case round =>
    obtain ⟨i, Hi, rfl, HG, HW⟩ := hrel
    by_cases hlt : i < n
    · have T0 : decide ((i : Int) < (n : Int)) = true := by simp <;> omega
      have T0' : decide (i < n) = true := decide_eq_true hlt
      obtain ⟨i', hi'⟩ : ∃ z, z = i + 1 := ⟨_, rfl⟩
      have x0 : IntKind.i64.wrap ((i : Int) + 1) = (i' : Int) := by have := H2.out; rw [IntKind.wrap_i64]; omega
      have HI' : Hid (i' ≤ n) := by show i' ≤ n; omega
      have HMS : Hid (n - (RowKit.intOf (Value.int .i64 (i' : Int))).toNat < n - (RowKit.intOf (Value.int .i64 (i : Int))).toNat) := by show _ < _; simp [RowKit.intOf]; omega
      have k0 : (0 : Int) ≤ (i : Int) := by omega
      have k1 : (i : Int) < (n : Int) := by omega
      obtain ⟨b1, o1, rfl, hb1, p0, p1⟩ := (HA.out.below (Nat.le_refl _) HW.out).at hlt
      obtain ⟨b2, o2, rfl, hb2, q0, q1⟩ := (HB.out.below (Nat.le_refl _) HW.out).at hlt
      have HLT := Lib.hid hlt
      have HST : Hid (X i = X' i ∧ Y i = Y' i → ∀ j, j < i' → X j = X' j ∧ Y j = Y' j) := fun h j hj => by
        rcases Nat.lt_or_ge j i with g | g
        · exact HG.out j g
        · have : j = i := by omega
          rw [this]; exact h
      have HNO : Hid (¬ (X i = X' i ∧ Y i = Y' i) → f = false) := fun h => by
        rw [hf.out]; exact boolOf_false fun g => h (g.2 i HLT.out)
      generalize X i = x at p0 HST HNO
      generalize Y i = y at p1 HST HNO
      generalize X' i = x' at q0 HST HNO
      generalize Y' i = y' at q1 HST HNO
      clear hi' hlt
      by_cases hx : x = x'
      · subst hx
        by_cases hy : y = y'
        · subst hy
          go_wp2_with fail
          go_quiet (fail)
          go_wp2_with fail
          go_roundw
          case rel => exact ⟨i', HI', rfl, HST.out (by simp), below_drewN HW.out _⟩
          case measure => exact HMS.out
        · have t1 : (y == y') = false := by simpa using hy
          have t2 : (y != y') = true := by simpa using hy
          obtain rfl : f = false := HNO.out (by simpa using hy)
          clear hy
          go_wp2_with fail
          go_quiet (fail)
          go_wp2_with fail
          go_ret
          exact ⟨rfl, below_drewN HW.out _⟩
      · have t1 : (x == x') = false := by simpa using hx
        have t2 : (x != x') = true := by simpa using hx
        obtain rfl : f = false := HNO.out fun h => hx h.1
        clear hx
        go_wp2_with fail
        go_quiet (fail)
        go_wp2_with fail
        go_ret
        exact ⟨rfl, below_drewN HW.out _⟩
    · have hin : i = n := by have := Hi.out; omega
      have T0 : decide ((i : Int) < (n : Int)) = false := by simp <;> omega
      have T0' : decide (i < n) = false := decide_eq_false hlt
      obtain rfl : f = true := by rw [hf.out]; exact boolOf_true ⟨rfl, by rw [← hin]; exact HG.out⟩
      clear hlt hin
      go_wp2_with fail
      go_ret
      exact ⟨rfl, HW.out⟩
end Go.Proofs.YtghefgifhebniaaGreatDoor

namespace Go.Proofs.YtghefgifhebniaaGreatDoor
open Go.RowKit Go.Sort
set_option linter.unusedVariables false
set_option linter.unusedSimpArgs false

/-- What is known of the network of the example. -/
structure ExNet (D : Nds) (K : Lks) : Prop where
  sz : NetSz D 2 K 1
  ok : netP D 2 K 1
  n0 : D.Nm 0 = ⟨#[97]⟩
  n1 : D.Nm 1 = ⟨#[111]⟩
  x0 : eX D 2 K 0 = 0
  y0 : eY D 2 K 0 = 1
theorem ex_net {NM : List Ndm} {LM : List Lkm} (h1 : ndx NM = [exA, exO]) (h2 : lkx LM = [exP]) : NM.length = 2 ∧ LM.length = 1 ∧ ExNet (ndsM NM) (lksM LM) := by
  have l1 : NM.length = 2 := by have := congrArg List.length h1; unfold ndx at this; rwa [List.length_map] at this
  have l2 : LM.length = 1 := by have := congrArg List.length h2; unfold lkx at this; rwa [List.length_map] at this
  have a0 : (ndsM NM).Nm 0 = ⟨#[97]⟩ := by unfold ndsM ndsR; rw [h1]; rfl
  have a1 : (ndsM NM).Nm 1 = ⟨#[111]⟩ := by unfold ndsM ndsR; rw [h1]; rfl
  have b0 : (lksM LM).Fr 0 = ⟨#[97]⟩ := by unfold lksM lksR; rw [h2]; rfl
  have b1 : (lksM LM).To 0 = ⟨#[111]⟩ := by unfold lksM lksR; rw [h2]; rfl
  have b2 : (lksM LM).Nm 0 = ⟨#[112]⟩ := by unfold lksM lksR; rw [h2]; rfl
  have b3 : (lksM LM).Sc 0 = ⟨#[99, 51, 48, 48]⟩ := by unfold lksM lksR; rw [h2]; rfl
  have b4 : (lksM LM).CN 0 = 0 := by unfold lksM lksR; rw [h2]; rfl
  have hok : netP (ndsM NM) 2 (lksM LM) 1 := by
    have := (netV_iff (ndx NM) (lkx LM) (fun k => (NM.getD k ⟨zNd, none, 0⟩).A) (fun k => (LM.getD k ⟨zLk, none, 0⟩).A) (fun k => (NM.getD k ⟨zNd, none, 0⟩).c) (fun k => (LM.getD k ⟨zLk, none, 0⟩).c)).2 (by rw [h1, h2]; exact netV_ex)
    rw [h1, h2] at this
    unfold ndsM lksM
    rw [h1, h2]
    exact this
  have hmx : (1 : Nat) ≤ maxLen ∧ (4 : Nat) ≤ maxLen := by have : maxLen = 9223372036854775807 := rfl; omega
  have one : ∀ i, i < 1 → i = 0 := fun i hi => by omega
  refine ⟨l1, l2, ⟨by decide, by decide, fun i hi => ?_, fun i hi => ?_, fun i hi => ?_, fun i hi => ?_, fun i hi => ?_, fun i hi => ?_⟩, hok, a0, a1, ?_, ?_⟩
  · rcases (show i = 0 ∨ i = 1 by omega) with rfl | rfl
    · rw [a0]; exact hmx.1
    · rw [a1]; exact hmx.1
  · rw [one i hi, b2]; exact hmx.1
  · rw [one i hi, b0]; exact hmx.1
  · rw [one i hi, b1]; exact hmx.1
  · rw [one i hi, b3]; exact hmx.2
  · rw [one i hi, b4]; omega
  · unfold eX; rw [b0]; exact fnd_a _ a0
  · unfold eY; rw [b1]; exact fnd_o _ a0 a1
theorem own_ints {w : World} {B : Nat} {u : Value} {L : List Int} (h : w.ownsRow B 3 1 u L.length (ic L)) (hL : L ≠ []) : ∃ g c, u = .slice (some ⟨g, 0, none⟩) L.length c ∧ g < w.heap.size ∧ ∀ j, j < L.length → w.cell? ⟨g, 0 + j, none⟩ = some (.int .i64 (L.getD j 0)) := by
  rcases h.2 with ⟨hv, h0⟩ | ⟨g, cap, cur, hv, _⟩
  · exact absurd (List.eq_nil_of_length_eq_zero h0) hL
  · subst hv
    refine ⟨g, cap, rfl, (h.lt g rfl).2, fun j hj => ?_⟩
    have := h.cellAt j (by omega)
    rw [Nat.zero_add]
    refine this.trans ?_
    unfold ic
    simp [List.getD, hj]
theorem own_strs {w : World} {B : Nat} {u : Value} {L : List ByteArray} (h : w.ownsRow B 9 1 u L.length (sc L)) (hL : L ≠ []) : ∃ g c, u = .slice (some ⟨g, 0, none⟩) L.length c ∧ g < w.heap.size ∧ ∀ j, j < L.length → w.cell? ⟨g, 0 + j, none⟩ = some (.string (L.getD j ByteArray.empty)) := by
  rcases h.2 with ⟨hv, h0⟩ | ⟨g, cap, cur, hv, _⟩
  · exact absurd (List.eq_nil_of_length_eq_zero h0) hL
  · subst hv
    have hl : (sc L).length = L.length := by unfold sc; simp
    refine ⟨g, cap, rfl, (h.lt g rfl).2, fun j hj => ?_⟩
    have := h.cellAt j (by omega)
    rw [Nat.zero_add]
    refine this.trans ?_
    unfold sc
    simp [List.getD, hj]
/-- slices.Equal at edges of which one is known, as awake asks. -/
theorem eq_edge {A : Option Addr} {c : Nat} {X Y : Nat → Int} {w : World} (h : TabIn w A 1 X Y) (hx : X 0 = 0) (hy : Y 0 = 1) : Calls Tryz.prog 20 #[.slice A 1 c, .slice (some ⟨w.heap.size, 0, none⟩) 1 1] (w.alloc (Obj.cells #[.int .i64 0, .int .i64 1] 38)) fun e w' => e = .returned (.bool true) ∧ Below w.heap.size w w' := by
  have hal : Below w.heap.size w (w.alloc (Obj.cells #[.int .i64 0, .int .i64 1] 38)) := (Below.refl _ w).alloc (Nat.le_refl _) _
  have hb := Blk.new w 38 #[.int .i64 0, .int .i64 1]
  have h2 : TabIn (w.alloc (Obj.cells #[.int .i64 0, .int .i64 1] 38)) (some ⟨w.heap.size, 0, none⟩) 1 (fun _ => 0) (fun _ => 1) := ⟨by omega, .inr ⟨_, _, rfl, hb.lt, fun k hk => by
    obtain rfl : k = 0 := by omega
    exact ⟨hb.cell 0, hb.cell 1⟩⟩⟩
  have hq : tabEq 1 X Y 1 (fun _ => 0) (fun _ => 1) := ⟨rfl, fun k hk => by
    obtain rfl : k = 0 := by omega
    exact ⟨hx, hy⟩⟩
  refine (eequal A _ 1 1 c 1 X Y _ _ _ (h.below (Nat.le_refl _) hal) h2).mono ?_
  rintro e w' ⟨he, hb'⟩
  exact ⟨by rw [he, boolOf_true hq], below_step hal hb'⟩
theorem eq_ints {B : Nat} {u : Value} {w : World} (h : w.ownsRow B 3 1 u 2 (ic [0, 1])) : Calls Tryz.prog 22 #[u, .slice (some ⟨w.heap.size, 0, none⟩) 2 2] (w.alloc (Obj.cells #[.int .i64 0, .int .i64 1] 3)) fun e w' => e = .returned (.bool true) ∧ Below w.heap.size w w' := by
  obtain ⟨g, c, rfl, hg, hc⟩ := own_ints (L := [0, 1]) h (by simp)
  have hal : Below w.heap.size w (w.alloc (Obj.cells #[.int .i64 0, .int .i64 1] 3)) := (Below.refl _ w).alloc (Nat.le_refl _) _
  have hb := Blk.new w 3 #[.int .i64 0, .int .i64 1]
  refine (Tryz.slices_Equal_int g 0 2 c w.heap.size 0 2 2 [0, 1] [0, 1] _ (by simp) (by simp) (by omega) (by omega) (fun j hj => (hal.cell (p := ⟨g, 0 + j, none⟩) hg).trans (hc j hj)) (fun j hj => ?_)).mono ?_
  · have hj2 : j < 2 := hj
    match j, hj2 with
    | 0, _ => exact hb.cell 0
    | 1, _ => exact hb.cell 1
  · rintro e w' ⟨he, q, rfl⟩
    exact ⟨by rw [he]; rfl, below_drewN hal _⟩
theorem eq_strs {B : Nat} {u : Value} {s : ByteArray} {w : World} (h : w.ownsRow B 9 1 u 1 (sc [s])) : Calls Tryz.prog 26 #[u, .slice (some ⟨w.heap.size, 0, none⟩) 1 1] (w.alloc (Obj.cells #[.string s] 9)) fun e w' => e = .returned (.bool true) ∧ Below w.heap.size w w' := by
  obtain ⟨g, c, rfl, hg, hc⟩ := own_strs (L := [s]) h (by simp)
  have hal : Below w.heap.size w (w.alloc (Obj.cells #[.string s] 9)) := (Below.refl _ w).alloc (Nat.le_refl _) _
  have hb := Blk.new w 9 #[.string s]
  refine (Tryz.slices_Equal_string g 0 1 c w.heap.size 0 1 1 [s] [s] _ (by simp) (by simp) (by omega) (by omega) (fun j hj => (hal.cell (p := ⟨g, 0 + j, none⟩) hg).trans (hc j hj)) (fun j hj => ?_)).mono ?_
  · have hj2 : j < 1 := hj
    obtain rfl : j = 0 := by omega
    exact hb.cell 0
  · rintro e w' ⟨he, q, rfl⟩
    exact ⟨by rw [he]; simp, below_drewN hal _⟩
/-- What the five functions answer at the network of the example. -/
theorem ex_valid {NA LA : Option Addr} {cn cl : Nat} {D : Nds} {K : Lks} {w : World} (hX : ExNet D K) (hD : NdIn w NA 2 D) (hK : LkIn w LA 1 K) : Calls Tryz.prog 36 #[.agg #[.slice NA 2 cn, .slice LA 1 cl]] w fun e w' => e = .returned (.bool true) ∧ Below w.heap.size w w' := by
  refine (nvalid NA LA 2 cn 1 cl D K hX.sz w hD hK).mono ?_
  rintro e w' ⟨he, hb⟩
  exact ⟨by rw [he, boolOf_true hX.ok], hb⟩
theorem ex_edges {NA LA : Option Addr} {cn cl : Nat} {D : Nds} {K : Lks} {w : World} (hX : ExNet D K) (hD : NdIn w NA 2 D) (hK : LkIn w LA 1 K) : Calls Tryz.prog 16 #[.agg #[.slice NA 2 cn, .slice LA 1 cl]] w fun e w' => ∃ A c, e = .returned (.tuple #[.slice A 1 c, .int .i64 0]) ∧ TabIn w' A 1 (eX D 2 K) (eY D 2 K) ∧ Below w.heap.size w w' := by
  refine (tnedges NA LA 2 cn 1 cl D K hX.sz w hD hK).mono ?_
  rintro e w' (⟨hn, _⟩ | ⟨_, u, he, hm⟩)
  · exact absurd hX.ok hn
  · obtain ⟨A, c, rfl, ht⟩ := hm.tab (by decide)
    exact ⟨A, c, he, ht, hm.2⟩
theorem ex_order {NA LA : Option Addr} {cn cl : Nat} {D : Nds} {K : Lks} {w : World} (hX : ExNet D K) (hD : NdIn w NA 2 D) (hK : LkIn w LA 1 K) : Calls Tryz.prog 17 #[.agg #[.slice NA 2 cn, .slice LA 1 cl]] w fun e w' => ∃ u, e = .returned (.tuple #[u, .int .i64 0]) ∧ w'.ownsRow w.heap.size 3 1 u 2 (ic [0, 1]) ∧ Below w.heap.size w w' := by
  refine (tnorder NA LA 2 cn 1 cl D K hX.sz w hD hK).mono ?_
  rintro e w' (⟨hn, _⟩ | ⟨_, u, he, ho, hb⟩)
  · exact absurd hX.ok hn
  · obtain ⟨h1, h2⟩ := ordR_one hX.x0 hX.y0
    rw [h1] at ho
    rw [h2] at he
    exact ⟨u, he, ho, hb⟩
theorem ex_below {NA LA : Option Addr} {cn cl : Nat} {D : Nds} {K : Lks} {w : World} (hX : ExNet D K) (hD : NdIn w NA 2 D) (hK : LkIn w LA 1 K) : Calls Tryz.prog 24 #[.agg #[.slice NA 2 cn, .slice LA 1 cl], .string ⟨#[97]⟩] w fun e w' => ∃ u, e = .returned (.tuple #[u, .int .i64 0]) ∧ w'.ownsRow w.heap.size 9 1 u 1 (sc [⟨#[111]⟩]) ∧ Below w.heap.size w w' := by
  refine (tnbelow NA LA 2 cn 1 cl D K _ hX.sz w hD hK).mono ?_
  have hf := fnd_a D hX.n0
  rintro e w' (⟨hn, _⟩ | ⟨_, h⟩)
  · exact absurd hX.ok hn
  · rw [hf] at h
    rcases h with ⟨h0, _⟩ | ⟨_, u, he, hm⟩
    · omega
    · have := nm_below (D := D) hX.n1 hX.x0 hX.y0
      rw [this] at hm
      exact ⟨u, he, hm.1, hm.2⟩
theorem ex_above {NA LA : Option Addr} {cn cl : Nat} {D : Nds} {K : Lks} {w : World} (hX : ExNet D K) (hD : NdIn w NA 2 D) (hK : LkIn w LA 1 K) : Calls Tryz.prog 23 #[.agg #[.slice NA 2 cn, .slice LA 1 cl], .string ⟨#[111]⟩] w fun e w' => ∃ u, e = .returned (.tuple #[u, .int .i64 0]) ∧ w'.ownsRow w.heap.size 9 1 u 1 (sc [⟨#[97]⟩]) ∧ Below w.heap.size w w' := by
  refine (tnabove NA LA 2 cn 1 cl D K _ hX.sz w hD hK).mono ?_
  have hf := fnd_o D hX.n0 hX.n1
  rintro e w' (⟨hn, _⟩ | ⟨_, h⟩)
  · exact absurd hX.ok hn
  · rw [hf] at h
    rcases h with ⟨h0, _⟩ | ⟨_, u, he, hm⟩
    · omega
    · have := nm_above (D := D) hX.n0 hX.y0 hX.x0
      rw [this] at hm
      exact ⟨u, he, hm.1, hm.2⟩
set_option maxRecDepth 100000 in
set_option maxHeartbeats 8000000 in
theorem awake26 (w : World) (hE : Env w) : Calls Tryz.prog 14 #[] w fun e w' => e = .returned (.bool true) ∧ Below w.heap.size w w' := by
  have SP := Lib.hid (tnparse exS (by rw [exS_size]; decide) (fun N L h => runs_exs h) w hE)
  clear hE
  go_enter Tryz.func14, Tryz.ntmps14
  go_upto_region 2 with (first
    | (go_at_call 45
       refine SP.out.mono ?_
       rintro e w1 ⟨NM, LM, k, er, NA, LA, cn, cl, hnt, rfl, hnd, hlk, hb1⟩
       obtain ⟨q1, q2, rfl, rfl⟩ := ntis_ex hnt
       obtain ⟨l1, l2, hex⟩ := ex_net q1 q2
       rw [l1] at hnd
       rw [l2] at hlk
       rw [l1, l2, show posN 0 = .agg #[.int .i64 0, .int .i64 0] from rfl]
       clear hnt q1 q2 l1 l2
       generalize ndsM NM = D at hnd hex
       generalize lksM LM = K at hlk hex
       have HX := Lib.hid hex
       have HND := Lib.hid hnd
       have HLK := Lib.hid hlk
       have HB1 := Lib.hid hb1
       clear hex hnd hlk hb1))
  clear SP
  have hal : Below w1.heap.size w1 ((w1.alloc (Obj.cells #[.slice NA 2 cn, .slice LA 1 cl] 25)).alloc (Obj.cells #[.int .i64 0, .int .i64 0] 73)) := ((Below.refl _ w1).alloc (Nat.le_refl _) _).alloc (by simp) _
  have HBX : Hid (Blk ((w1.alloc (Obj.cells #[.slice NA 2 cn, .slice LA 1 cl] 25)).alloc (Obj.cells #[.int .i64 0, .int .i64 0] 73)) w1.heap.size 25 #[.slice NA 2 cn, .slice LA 1 cl]) := (Blk.new _ _ _).alloc _
  have HAL := Lib.hid hal
  clear hal
  generalize ((w1.alloc (Obj.cells #[.slice NA 2 cn, .slice LA 1 cl] 25)).alloc (Obj.cells #[.int .i64 0, .int .i64 0] 73)) = w3 at HBX HAL ⊢
  obtain ⟨y0, y1⟩ := blk2 HBX.out
  go_wp2_with (first
    | (go_at_call 36
       with_reducible refine (ex_valid HX.out (HND.out.below (Nat.le_refl _) HAL.out) (HLK.out.below (Nat.le_refl _) HAL.out)).mono ?_
       rintro e w4 ⟨rfl, hb⟩
       have HB4 := Lib.hid (below_step HAL.out hb)
       have HX4 := Lib.hid (HBX.out.call hb)
       obtain ⟨y0, y1⟩ := blk2 HX4.out
       clear hb)
    | (go_at_call 16
       with_reducible refine (ex_edges HX.out (HND.out.below (Nat.le_refl _) HB4.out) (HLK.out.below (Nat.le_refl _) HB4.out)).mono ?_
       rintro e w5 ⟨A5, c5, rfl, ht5, hb⟩
       have HT5 := Lib.hid ht5
       have HB5 := Lib.hid (below_step HB4.out hb)
       have HX5 := Lib.hid (HX4.out.call hb)
       obtain ⟨y0, y1⟩ := blk2 HX5.out
       clear hb ht5)
    | (go_at_call 17
       with_reducible refine (ex_order HX.out (HND.out.below (Nat.le_refl _) HB5.out) (HLK.out.below (Nat.le_refl _) HB5.out)).mono ?_
       rintro e w6 ⟨u6', rfl, ho6, hb⟩
       have HT6 := Lib.hid (HT5.out.below (Nat.le_refl _) hb)
       have HO6 := Lib.hid ho6
       have HB6 := Lib.hid (below_step HB5.out hb)
       have HX6 := Lib.hid (HX5.out.call hb)
       obtain ⟨y0, y1⟩ := blk2 HX6.out
       clear hb ho6)
    | (go_at_call 24
       with_reducible refine (ex_below HX.out (HND.out.below (Nat.le_refl _) HB6.out) (HLK.out.below (Nat.le_refl _) HB6.out)).mono ?_
       rintro e w7 ⟨u7', rfl, ho7, hb⟩
       have HT7 := Lib.hid (HT6.out.below (Nat.le_refl _) hb)
       have HO7 := Lib.hid (own_below HO6.out hb)
       have HP7 := Lib.hid ho7
       have HB7 := Lib.hid (below_step HB6.out hb)
       have HX7 := Lib.hid (HX6.out.call hb)
       obtain ⟨y0, y1⟩ := blk2 HX7.out
       clear hb ho7)
    | (go_at_call 23
       with_reducible refine (ex_above HX.out (HND.out.below (Nat.le_refl _) HB7.out) (HLK.out.below (Nat.le_refl _) HB7.out)).mono ?_
       rintro e w8 ⟨u8', rfl, ho8, hb⟩
       have HT8 := Lib.hid (HT7.out.below (Nat.le_refl _) hb)
       have HO8 := Lib.hid (own_below HO7.out hb)
       have HP8 := Lib.hid (own_below HP7.out hb)
       have HQ8 := Lib.hid ho8
       have HB8 := Lib.hid (below_step HB7.out hb)
       clear hb ho8)
    | (go_at_call 20
       with_reducible refine (eq_edge HT8.out HX.out.x0 HX.out.y0).mono ?_
       rintro e w9 ⟨rfl, hb⟩
       have HO9 := Lib.hid (own_below HO8.out hb)
       have HP9 := Lib.hid (own_below HP8.out hb)
       have HQ9 := Lib.hid (own_below HQ8.out hb)
       have HB9 := Lib.hid (below_step HB8.out hb)
       clear hb)
    | (go_at_call 22
       with_reducible refine (eq_ints HO9.out).mono ?_
       rintro e w10 ⟨rfl, hb⟩
       have HP10 := Lib.hid (own_below HP9.out hb)
       have HQ10 := Lib.hid (own_below HQ9.out hb)
       have HB10 := Lib.hid (below_step HB9.out hb)
       clear hb)
    | (go_at_call 26
       with_reducible refine (eq_strs HP10.out).mono ?_
       rintro e w11 ⟨rfl, hb⟩
       have HQ11 := Lib.hid (own_below HQ10.out hb)
       have HB11 := Lib.hid (below_step HB10.out hb)
       clear hb HP10)
    | (go_at_call 26
       with_reducible refine (eq_strs HQ11.out).mono ?_
       rintro e w12 ⟨rfl, hb⟩
       have HB12 := Lib.hid (below_step HB11.out hb)
       clear hb))
  go_ret
  exact ⟨rfl, below_step HB1.out HB12.out⟩
end Go.Proofs.YtghefgifhebniaaGreatDoor

/-
  slices.Contains at strings: the shelf's contracts, in plain words (off the shelf's own laying).
-/
namespace Go.Proofs
open Go.Shelf
def Tryz.lays110_ren : Go.Shelf.Ren := ⟨fun | 110 => 29 | 109 => 63 | n => n, fun | 31 => 41 | 9 => 9 | 4 => 4 | 3 => 3 | 0 => 0 | n => n, fun | n => n⟩
theorem Tryz.lays110 : Go.Proofs.Lays.n110 Tryz.prog Tryz.lays110_ren := {
  mixed := by kernel_rfl
  f109 := Tryz.func63.trans (congrArg some (by kernel_rfl))
  f110 := Tryz.func29.trans (congrArg some (by kernel_rfl))
  t0 := Tryz.underlying0
  a0 := Tryz.isAgg0
  z0 := Tryz.sizeOf0
  v0 := Tryz.zeroValue0
  t3 := Tryz.underlying3
  a3 := Tryz.isAgg3
  z3 := Tryz.sizeOf3
  v3 := Tryz.zeroValue3
  t4 := Tryz.underlying4
  a4 := Tryz.isAgg4
  z4 := Tryz.sizeOf4
  v4 := Tryz.zeroValue4
  t9 := Tryz.underlying9
  a9 := Tryz.isAgg9
  z9 := Tryz.sizeOf9
  v9 := Tryz.zeroValue9
  t31 := Tryz.underlying41
  a31 := Tryz.isAgg41
  z31 := Tryz.sizeOf41
  v31 := Tryz.zeroValue41 }
open Go.Lib in
/-- slices.Contains at []string: "Contains reports whether v is present in s.": IT RETURNS 'Lib.containsS (the elements) v', which is true just where v is among them ('Lib.containsS_iff'); the world is as it was. ITS CALLEE slices.Index IS MET BY ITS OWN CONTRACT OFF THE SHELF (lay that first): no loop is walked here. (LAID: no walk: one application.) -/
theorem Tryz.slices_Contains_string (b off n c : Nat) (zs : List ByteArray) (x : ByteArray) (w : World) (hz : n ≤ zs.length) (hbig : n ≤ 9223372036854775807) (hc : ∀ j, j < zs.length → w.cell? ⟨b, off + j, none⟩ = some (.string (zs.getD j ByteArray.empty))) :
    Calls Tryz.prog 29 #[.slice (some ⟨b, off, none⟩) n c, .string x] w fun e w' => e = .returned (.bool (Lib.containsS (zs.take n) x)) ∧ w' = w := Any.slices_Contains_string Tryz.lays110 b off n c zs x w hz hbig hc
open Go.Lib in
/-- The same at a slice of length 0, a nil one too. (LAID: no walk: one application.) -/
theorem Tryz.slices_Contains_string_empty (a : Option Addr) (c : Nat) (x : ByteArray) (w : World) :
    Calls Tryz.prog 29 #[.slice a 0 c, .string x] w fun e w' => e = .returned (.bool false) ∧ w' = w := Any.slices_Contains_string_empty Tryz.lays110 a c x w
end Go.Proofs

namespace Go.Proofs.YtghefgifhebniaaGreatDoor
set_option linter.unusedVariables false
set_option linter.unusedSimpArgs false

theorem wayP_ahead {X Y : Nat → Int} {m k : Nat} {z : Int} (hk : k < m) (h : WayP X Y m (Y k) z) : WayP X Y m (X k) z := by
  have h0 : WayP X Y m (X k) (Y k) := .src ⟨k, hk, rfl, rfl⟩
  refine h.closed (P := fun z => WayP X Y m (X k) z) (fun z ⟨j, hj, e1, e2⟩ => ?_) (fun j hj h => .step hj h)
  rw [← e2]
  exact .step hj (by rw [e1]; exact h0)
theorem wayP_turn {X Y : Nat → Int} {m : Nat} {a b : Int} (h : WayP X Y m a b) : WayP Y X m b a := by
  refine h.closed (P := fun z => WayP Y X m z a) (fun z ⟨j, hj, e1, e2⟩ => .src ⟨j, hj, e2, e1⟩) (fun j hj h => ?_)
  exact wayP_ahead (X := Y) (Y := X) hj h
theorem wayP_dual {X Y : Nat → Int} {m : Nat} {a b : Int} : WayP X Y m a b ↔ WayP Y X m b a := ⟨wayP_turn, wayP_turn⟩
theorem wayP_join {X Y : Nat → Int} {m : Nat} {a b c : Int} (h1 : WayP X Y m a b) (h2 : WayP X Y m b c) : WayP X Y m a c := by
  refine h2.closed (P := fun z => WayP X Y m a z) (fun z ⟨j, hj, e1, e2⟩ => ?_) (fun j hj h => .step hj h)
  rw [← e2]
  exact .step hj (by rw [e1]; exact h1)
/-- Fewer edges, fewer ways. -/
theorem wayP_less {X Y X' Y' : Nat → Int} {m m' : Nat} (he : ∀ k, k < m' → ∃ j, j < m ∧ X j = X' k ∧ Y j = Y' k) {a b : Int} (h : WayP X' Y' m' a b) : WayP X Y m a b := by
  have h0 : ∀ z, nextP X' Y' m' a z → WayP X Y m a z := fun z ⟨j, hj, e1, e2⟩ => by
    obtain ⟨i, hi, a1, a2⟩ := he j hj
    exact .src ⟨i, hi, by rw [a1, e1], by rw [a2, e2]⟩
  have h1 : ∀ j, j < m' → WayP X Y m a (X' j) → WayP X Y m a (Y' j) := fun j hj h => by
    obtain ⟨i, hi, a1, a2⟩ := he j hj
    rw [← a2]
    exact .step hi (by rw [a1]; exact h)
  exact Rch.closed (P := fun z => WayP X Y m a z) h0 h1 h
theorem mem_nmL {D : Nds} {o : Nat → Bool} {n : Nat} {s : ByteArray} : s ∈ nmL D o n ↔ ∃ v, v < n ∧ o v = true ∧ D.Nm v = s := by
  unfold nmL
  simp only [List.mem_map, List.mem_filter, List.mem_range]
  constructor
  · rintro ⟨v, ⟨h1, h2⟩, h3⟩; exact ⟨v, h1, h2, h3⟩
  · rintro ⟨v, h1, h2, h3⟩; exact ⟨v, ⟨h1, h2⟩, h3⟩
theorem netP_inj {D : Nds} {K : Lks} {n m i j : Nat} (h : netP D n K m) (hi : i < n) (hj : j < n) (e : D.Nm i = D.Nm j) : i = j := by
  have h1 := (h.2.2.1 i hi).2
  have h2 := (h.2.2.1 j hj).2
  rw [e] at h1
  omega
theorem mem_nmL_at {D : Nds} {K : Lks} {o : Nat → Bool} {n m j : Nat} (h : netP D n K m) (hj : j < n) : D.Nm j ∈ nmL D o n ↔ o j = true := by
  rw [mem_nmL]
  constructor
  · rintro ⟨v, h1, h2, h3⟩
    rw [← netP_inj h h1 hj h3]; exact h2
  · intro h2; exact ⟨j, hj, h2, rfl⟩
/-- Above and below. -/
theorem way_dual {D : Nds} {K : Lks} {X Y : Nat → Int} {n m l a b : Nat} (h : netP D n K l) (ha : a < n) (hb : b < n) : D.Nm b ∈ nmL D (wayB Y X m (a : Int)) n ↔ D.Nm a ∈ nmL D (wayB X Y m (b : Int)) n := by
  rw [mem_nmL_at h hb, mem_nmL_at h ha, wayB_iff, wayB_iff]
  exact wayP_dual
theorem way_join {D : Nds} {K : Lks} {X Y : Nat → Int} {n m l a b : Nat} (h : netP D n K l) (ha : a < n) (h1 : D.Nm a ∈ nmL D (wayB X Y m (b : Int)) n) (s : ByteArray) (hs : s ∈ nmL D (wayB X Y m (a : Int)) n) : s ∈ nmL D (wayB X Y m (b : Int)) n := by
  rw [mem_nmL_at h ha, wayB_iff] at h1
  obtain ⟨v, hv, h2, h3⟩ := mem_nmL.1 hs
  rw [wayB_iff] at h2
  exact mem_nmL.2 ⟨v, hv, wayB_iff.2 (wayP_join h1 h2), h3⟩
end Go.Proofs.YtghefgifhebniaaGreatDoor

namespace Go.Proofs.YtghefgifhebniaaGreatDoor
open Go.RowKit Go.Sort
set_option linter.unusedVariables false
set_option linter.unusedSimpArgs false

theorem boolOf_eq2 {p : Prop} {b : Bool} (h : b = true ↔ p) : b = boolOf p := boolOf_eq h
theorem ctn {B : Nat} {u : Value} {L : List ByteArray} {w : World} (s : ByteArray) (h : w.ownsRow B 9 1 u L.length (sc L)) (hl : L.length ≤ 2000) : Calls Tryz.prog 29 #[u, .string s] w fun e w' => e = .returned (.bool (boolOf (s ∈ L))) ∧ Below w.heap.size w w' := by
  by_cases hL : L = []
  · subst hL
    obtain ⟨A, c, rfl⟩ := nr_form h
    refine (Tryz.slices_Contains_string_empty A c s w).mono ?_
    rintro e w' ⟨he, rfl⟩
    exact ⟨by rw [he, boolOf_false (by simp)], Below.refl _ _⟩
  · obtain ⟨g, c, rfl, hg, hc⟩ := own_strs h hL
    refine (Tryz.slices_Contains_string g 0 L.length c L s w (Nat.le_refl _) (by omega) hc).mono ?_
    rintro e w' ⟨he, rfl⟩
    refine ⟨?_, Below.refl _ _⟩
    rw [he, List.take_length, boolOf_eq2 (Lib.containsS_iff L s)]
/-- A row of names that a box holds. -/
structure BoxS (w : World) (g : Nat) (L : List ByteArray) : Prop where
  lt : g < w.heap.size
  at_ : ∃ B u, w.cell? ⟨g, 0, none⟩ = some u ∧ w.ownsRow B 9 1 u L.length (sc L)
theorem BoxS.below {w w' : World} {g : Nat} {L : List ByteArray} (h : BoxS w g L) (hb : Below w.heap.size w w') : BoxS w' g L := by
  obtain ⟨B, u, h1, h2⟩ := h.at_
  exact ⟨Nat.lt_of_lt_of_le h.lt hb.size, B, u, (hb.cell (p := ⟨g, 0, none⟩) h.lt).trans h1, own_below h2 hb⟩
theorem own_strin {w : World} {B N c : Nat} {A : Option Addr} {R : List ByteArray} (hN : N = R.length) (h : w.ownsRow B 9 1 (.slice A N c) R.length (sc R)) (hb : N ≤ 2000) : StrIn w A N (fun j => R.getD j ByteArray.empty) := by
  refine ⟨by omega, ?_⟩
  by_cases hR : R = []
  · left; rw [hN, hR]; rfl
  · obtain ⟨g, c', e, hg, hc⟩ := own_strs h hR
    cases e
    exact .inr ⟨g, 0, rfl, hg, fun j hj => by have := hc j (by omega); exact this⟩
theorem p_outD (L : List ByteArray) (g : Nat) (s : ByteArray) (f : Bool) (hf : f = boolOf (¬ s ∈ L)) (hl : L.length ≤ 2000) (w : World) (hB : BoxS w g L) :
    Calls Tryz.prog 31 #[.string s, .pointer (some ⟨g, 0, none⟩)] w fun e w' => e = .returned (.bool f) ∧ Below w.heap.size w w' := by
  obtain ⟨B, u, hy, ho⟩ := hB.at_
  have S := ctn s ho hl
  clear ho hB
  by_cases h : s ∈ L
  · obtain rfl : f = false := by rw [hf]; exact boolOf_false (fun q => q h)
    rw [boolOf_true h] at S
    have HS := Lib.hid S
    clear S h hf hl
    go_enter Tryz.func31, Tryz.ntmps31
    go_wp2_with (first | (go_at_call 29; (with_reducible refine (HS.out).mono ?_); rintro e w1 ⟨rfl, hb1⟩; obtain ⟨hc1, hf1⟩ := bcell hb1; have hz1 := hb1.size; (try simp at hz1); (try simp only [heap_drew, World.heap_drewN] at hz1); (try simp only [heap_drew, World.heap_drewN] at hc1); (try simp only [heap_drew, World.heap_drewN] at hf1); (try have hs1 := Nat.lt_of_succ_le hz1); (try have hs2 := Nat.lt_of_succ_lt hs1); (try have y0 : w.heap.size < w1.heap.size := by omega); (try have y1 : w.heap.size + 1 < w1.heap.size := by omega); (try have y2 : w.heap.size + 2 < w1.heap.size := by omega)))
    go_ret
    exact ⟨rfl, by (repeat' (first | assumption | exact Below.refl _ _ | exact Below.size (by assumption) | (refine Below.setCell ?_ ?_ _) | (refine Below.alloc ?_ ?_ _) | (refine Below.drew ?_) | (refine below_drewN ?_ _) | (refine Below.trans ?_ (Below.mono ‹Below _ _ _› ?_)) | omega | (simp; done) | (simp; omega) | (simp at *; omega)))⟩
  · obtain rfl : f = true := by rw [hf]; exact boolOf_true h
    rw [boolOf_false h] at S
    have HS := Lib.hid S
    clear S h hf hl
    go_enter Tryz.func31, Tryz.ntmps31
    go_wp2_with (first | (go_at_call 29; (with_reducible refine (HS.out).mono ?_); rintro e w1 ⟨rfl, hb1⟩; obtain ⟨hc1, hf1⟩ := bcell hb1; have hz1 := hb1.size; (try simp at hz1); (try simp only [heap_drew, World.heap_drewN] at hz1); (try simp only [heap_drew, World.heap_drewN] at hc1); (try simp only [heap_drew, World.heap_drewN] at hf1); (try have hs1 := Nat.lt_of_succ_le hz1); (try have hs2 := Nat.lt_of_succ_lt hs1); (try have y0 : w.heap.size < w1.heap.size := by omega); (try have y1 : w.heap.size + 1 < w1.heap.size := by omega); (try have y2 : w.heap.size + 2 < w1.heap.size := by omega)))
    go_ret
    exact ⟨rfl, by (repeat' (first | assumption | exact Below.refl _ _ | exact Below.size (by assumption) | (refine Below.setCell ?_ ?_ _) | (refine Below.alloc ?_ ?_ _) | (refine Below.drew ?_) | (refine below_drewN ?_ _) | (refine Below.trans ?_ (Below.mono ‹Below _ _ _› ?_)) | omega | (simp; done) | (simp; omega) | (simp at *; omega)))⟩
set_option maxHeartbeats 2000000 in
theorem find_outD (A : Option Addr) (n c k : Nat) (X : Nat → ByteArray) (L : List ByteArray) (hL : L.length ≤ 2000) (g : Nat) (w : World) (h2 : n ≤ 2000) (ht : StrIn w A n X) (hy : BoxS w g L) (hk : FirstAt (fun j => boolOf (¬ X j ∈ L)) n k) (v : Int) (hv : v = if k < n then (k : Int) else -1) :
    Calls Tryz.prog 64 #[.slice A n c, .func (.func 31) #[] #[.pointer (some ⟨g, 0, none⟩)]] w fun e w' => e = .returned (.int .i64 v) ∧ Below w.heap.size w w' := by
  have HT := Lib.hid ht
  have HK := Lib.hid hk
  have H2 := Lib.hid h2
  have HV := Lib.hid hv
  have HY := Lib.hid hy
  clear hy
  clear ht hk h2 hv
  go_enter Tryz.func64, Tryz.ntmps64
  go_wp2_with fail
  go_loopw [8] (fun u wr => ∃ i : Nat, Hid (i ≤ n ∧ i ≤ k) ∧ u = .int .i64 i ∧ Hid (Below w.heap.size w wr)) (fun u _ => n - (RowKit.intOf u).toNat)
  case atStart => exact ⟨0, ⟨Nat.zero_le _, Nat.zero_le _⟩, rfl, Below.refl _ _⟩
  case round =>
    obtain ⟨i, Hi, rfl, HW⟩ := hrel
    by_cases hlt : i < n
    · have T0 : decide ((i : Int) < (n : Int)) = true := by simp <;> omega
      have T0' : decide (i < n) = true := decide_eq_true hlt
      obtain ⟨i', hi'⟩ : ∃ z, z = i + 1 := ⟨_, rfl⟩
      have x0 : IntKind.i64.wrap ((i : Int) + 1) = (i' : Int) := by have := H2.out; rw [IntKind.wrap_i64]; omega
      obtain ⟨b, off, rfl, hb, hX⟩ := (HT.out.below (Nat.le_refl _) HW.out).at hlt
      have k0 : (0 : Int) ≤ (i : Int) := by omega
      have k1 : (i : Int) < (n : Int) := by omega
      have hyr : BoxS wr g L := HY.out.below HW.out
      have HMS : Hid (n - (RowKit.intOf (Value.int .i64 (i' : Int))).toNat < n - (RowKit.intOf (Value.int .i64 (i : Int))).toNat) := by show _ < _; simp [RowKit.intOf]; omega
      rcases first_at HK.out hlt Hi.out.2 with ⟨hp, hik⟩ | ⟨hp, hik⟩
      · have KK := Lib.hid (p_outD L g (X i) true hp.symm hL wr hyr)
        have HR : Hid ((i : Int) = v) := by show (i : Int) = v; rw [HV.out, hik, if_pos (by omega)]
        clear hi' hp hik hyr
        go_wp2_with (first | (go_at_call 31; (with_reducible refine (KK.out).mono ?_); rintro e w1 ⟨rfl, hb1⟩; obtain ⟨hc1, hf1⟩ := bcell hb1; have hz1 := hb1.size; (try simp at hz1); (try simp only [heap_drew, World.heap_drewN] at hz1); (try simp only [heap_drew, World.heap_drewN] at hc1); (try simp only [heap_drew, World.heap_drewN] at hf1); (try have hs1 := Nat.lt_of_succ_le hz1); (try have hs2 := Nat.lt_of_succ_lt hs1); (try have y0 : w.heap.size < w1.heap.size := by omega); (try have y1 : w.heap.size + 1 < w1.heap.size := by omega); (try have y2 : w.heap.size + 2 < w1.heap.size := by omega)))
        go_ret
        refine ⟨ret_int HR.out, ?_⟩
        have := HW.out
        (repeat' (first | assumption | exact Below.refl _ _ | exact Below.size (by assumption) | (refine Below.setCell ?_ ?_ _) | (refine Below.alloc ?_ ?_ _) | (refine Below.drew ?_) | (refine below_drewN ?_ _) | (refine Below.trans ?_ (Below.mono ‹Below _ _ _› ?_)) | omega | (simp; done) | (simp; omega) | (simp at *; omega)))
      · have KK := Lib.hid (p_outD L g (X i) false hp.symm hL wr hyr)
        have HI' : Hid (i' ≤ n ∧ i' ≤ k) := by show _ ∧ _; omega
        clear hi' hp hik hyr
        go_wp2_with (first | (go_at_call 31; (with_reducible refine (KK.out).mono ?_); rintro e w1 ⟨rfl, hb1⟩; obtain ⟨hc1, hf1⟩ := bcell hb1; have hz1 := hb1.size; (try simp at hz1); (try simp only [heap_drew, World.heap_drewN] at hz1); (try simp only [heap_drew, World.heap_drewN] at hc1); (try simp only [heap_drew, World.heap_drewN] at hf1); (try have hs1 := Nat.lt_of_succ_le hz1); (try have hs2 := Nat.lt_of_succ_lt hs1); (try have y0 : w.heap.size < w1.heap.size := by omega); (try have y1 : w.heap.size + 1 < w1.heap.size := by omega); (try have y2 : w.heap.size + 2 < w1.heap.size := by omega)))
        go_roundw
        case rel => exact ⟨i', HI', rfl, HW.out.trans (hb1.mono HW.out.size)⟩
        case measure => exact HMS.out
    · have e : i = n := by have := Hi.out; omega
      have HR : Hid ((-1 : Int) = v) := by show (-1 : Int) = v; rw [HV.out, if_neg (by have := Hi.out; omega)]
      have T0 : decide ((i : Int) < (n : Int)) = false := by simp <;> omega
      have T0' : decide (i < n) = false := decide_eq_false hlt
      clear e hlt
      go_wp2_with fail
      go_ret
      exact ⟨ret_int HR.out, HW.out⟩
theorem has_outD (A : Option Addr) (n c : Nat) (X : Nat → ByteArray) (L : List ByteArray) (hL : L.length ≤ 2000) (g : Nat) (w : World) (h2 : n ≤ 2000) (ht : StrIn w A n X) (hy : BoxS w g L) (f : Bool) (hf : f = true ↔ ∃ j, j < n ∧ (fun j => boolOf (¬ X j ∈ L)) j = true) :
    Calls Tryz.prog 30 #[.slice A n c, .func (.func 31) #[] #[.pointer (some ⟨g, 0, none⟩)]] w fun e w' => e = .returned (.bool f) ∧ Below w.heap.size w w' := by
  obtain ⟨k, hk⟩ := first_ex (fun j => boolOf (¬ X j ∈ L)) n
  have hany := first_any hk
  have S := Lib.hid (find_outD A n c k X L hL g w h2 ht hy hk _ rfl)
  by_cases hkn : k < n
  · have hft : f = true := hf.2 (hany.1 hkn)
    rw [if_pos hkn] at S
    have t : decide ((0 : Int) ≤ (k : Int)) = true := decide_eq_true (by omega)
    subst hft
    clear hk hany hkn hf ht h2 hy hL
    go_enter Tryz.func30, Tryz.ntmps30
    go_wp2_with (first | (go_at_call 64; (with_reducible refine (S.out).mono ?_); rintro e w1 ⟨rfl, hb1⟩; obtain ⟨hc1, hf1⟩ := bcell hb1; have hz1 := hb1.size; (try simp at hz1); (try simp only [heap_drew, World.heap_drewN] at hz1); (try simp only [heap_drew, World.heap_drewN] at hc1); (try simp only [heap_drew, World.heap_drewN] at hf1); (try have hs1 := Nat.lt_of_succ_le hz1); (try have hs2 := Nat.lt_of_succ_lt hs1); (try have y0 : w.heap.size < w1.heap.size := by omega); (try have y1 : w.heap.size + 1 < w1.heap.size := by omega); (try have y2 : w.heap.size + 2 < w1.heap.size := by omega)))
    go_ret
    refine ⟨rfl, ?_⟩
    (repeat' (first | assumption | exact Below.refl _ _ | exact Below.size (by assumption) | (refine Below.setCell ?_ ?_ _) | (refine Below.alloc ?_ ?_ _) | (refine Below.drew ?_) | (refine below_drewN ?_ _) | (refine Below.trans ?_ (Below.mono ‹Below _ _ _› ?_)) | omega | (simp; done) | (simp; omega) | (simp at *; omega)))
  · have hft : f = false := by
      cases f with
      | false => rfl
      | true => exact absurd (hany.2 (hf.1 rfl)) hkn
    rw [if_neg hkn] at S
    subst hft
    clear hk hany hkn hf ht h2 hy hL
    go_enter Tryz.func30, Tryz.ntmps30
    go_wp2_with (first | (go_at_call 64; (with_reducible refine (S.out).mono ?_); rintro e w1 ⟨rfl, hb1⟩; obtain ⟨hc1, hf1⟩ := bcell hb1; have hz1 := hb1.size; (try simp at hz1); (try simp only [heap_drew, World.heap_drewN] at hz1); (try simp only [heap_drew, World.heap_drewN] at hc1); (try simp only [heap_drew, World.heap_drewN] at hf1); (try have hs1 := Nat.lt_of_succ_le hz1); (try have hs2 := Nat.lt_of_succ_lt hs1); (try have y0 : w.heap.size < w1.heap.size := by omega); (try have y1 : w.heap.size + 1 < w1.heap.size := by omega); (try have y2 : w.heap.size + 2 < w1.heap.size := by omega)))
    go_ret
    refine ⟨rfl, ?_⟩
    (repeat' (first | assumption | exact Below.refl _ _ | exact Below.size (by assumption) | (refine Below.setCell ?_ ?_ _) | (refine Below.alloc ?_ ?_ _) | (refine Below.drew ?_) | (refine below_drewN ?_ _) | (refine Below.trans ?_ (Below.mono ‹Below _ _ _› ?_)) | omega | (simp; done) | (simp; omega) | (simp at *; omega)))

theorem has_subD {B : Nat} {A : Option Addr} {N c g : Nat} {R L : List ByteArray} {w : World} (hN : N = R.length) (h : w.ownsRow B 9 1 (.slice A N c) R.length (sc R)) (hb : N ≤ 2000) (hL : L.length ≤ 2000) (hB : BoxS w g L) (hs : ∀ s, s ∈ R → s ∈ L) :
    Calls Tryz.prog 30 #[.slice A N c, .func (.func 31) #[] #[.pointer (some ⟨g, 0, none⟩)]] w fun e w' => e = .returned (.bool false) ∧ Below w.heap.size w w' := by
  refine has_outD A N c _ L hL g w hb (own_strin hN h hb) hB false ⟨fun e => (by cases e), ?_⟩
  rintro ⟨j, hj, hp⟩
  refine absurd (hs _ ?_) (of_boolOf hp)
  show R.getD j ByteArray.empty ∈ R
  have : j < R.length := by omega
  simp [List.getD, this]
theorem p_outW (L : List ByteArray) (g : Nat) (s : ByteArray) (f : Bool) (hf : f = boolOf (¬ s ∈ L)) (hl : L.length ≤ 2000) (w : World) (hB : BoxS w g L) :
    Calls Tryz.prog 44 #[.string s, .pointer (some ⟨g, 0, none⟩)] w fun e w' => e = .returned (.bool f) ∧ Below w.heap.size w w' := by
  obtain ⟨B, u, hy, ho⟩ := hB.at_
  have S := ctn s ho hl
  clear ho hB
  by_cases h : s ∈ L
  · obtain rfl : f = false := by rw [hf]; exact boolOf_false (fun q => q h)
    rw [boolOf_true h] at S
    have HS := Lib.hid S
    clear S h hf hl
    go_enter Tryz.func44, Tryz.ntmps44
    go_wp2_with (first | (go_at_call 29; (with_reducible refine (HS.out).mono ?_); rintro e w1 ⟨rfl, hb1⟩; obtain ⟨hc1, hf1⟩ := bcell hb1; have hz1 := hb1.size; (try simp at hz1); (try simp only [heap_drew, World.heap_drewN] at hz1); (try simp only [heap_drew, World.heap_drewN] at hc1); (try simp only [heap_drew, World.heap_drewN] at hf1); (try have hs1 := Nat.lt_of_succ_le hz1); (try have hs2 := Nat.lt_of_succ_lt hs1); (try have y0 : w.heap.size < w1.heap.size := by omega); (try have y1 : w.heap.size + 1 < w1.heap.size := by omega); (try have y2 : w.heap.size + 2 < w1.heap.size := by omega)))
    go_ret
    exact ⟨rfl, by (repeat' (first | assumption | exact Below.refl _ _ | exact Below.size (by assumption) | (refine Below.setCell ?_ ?_ _) | (refine Below.alloc ?_ ?_ _) | (refine Below.drew ?_) | (refine below_drewN ?_ _) | (refine Below.trans ?_ (Below.mono ‹Below _ _ _› ?_)) | omega | (simp; done) | (simp; omega) | (simp at *; omega)))⟩
  · obtain rfl : f = true := by rw [hf]; exact boolOf_true h
    rw [boolOf_false h] at S
    have HS := Lib.hid S
    clear S h hf hl
    go_enter Tryz.func44, Tryz.ntmps44
    go_wp2_with (first | (go_at_call 29; (with_reducible refine (HS.out).mono ?_); rintro e w1 ⟨rfl, hb1⟩; obtain ⟨hc1, hf1⟩ := bcell hb1; have hz1 := hb1.size; (try simp at hz1); (try simp only [heap_drew, World.heap_drewN] at hz1); (try simp only [heap_drew, World.heap_drewN] at hc1); (try simp only [heap_drew, World.heap_drewN] at hf1); (try have hs1 := Nat.lt_of_succ_le hz1); (try have hs2 := Nat.lt_of_succ_lt hs1); (try have y0 : w.heap.size < w1.heap.size := by omega); (try have y1 : w.heap.size + 1 < w1.heap.size := by omega); (try have y2 : w.heap.size + 2 < w1.heap.size := by omega)))
    go_ret
    exact ⟨rfl, by (repeat' (first | assumption | exact Below.refl _ _ | exact Below.size (by assumption) | (refine Below.setCell ?_ ?_ _) | (refine Below.alloc ?_ ?_ _) | (refine Below.drew ?_) | (refine below_drewN ?_ _) | (refine Below.trans ?_ (Below.mono ‹Below _ _ _› ?_)) | omega | (simp; done) | (simp; omega) | (simp at *; omega)))⟩
set_option maxHeartbeats 2000000 in
theorem find_outW (A : Option Addr) (n c k : Nat) (X : Nat → ByteArray) (L : List ByteArray) (hL : L.length ≤ 2000) (g : Nat) (w : World) (h2 : n ≤ 2000) (ht : StrIn w A n X) (hy : BoxS w g L) (hk : FirstAt (fun j => boolOf (¬ X j ∈ L)) n k) (v : Int) (hv : v = if k < n then (k : Int) else -1) :
    Calls Tryz.prog 64 #[.slice A n c, .func (.func 44) #[] #[.pointer (some ⟨g, 0, none⟩)]] w fun e w' => e = .returned (.int .i64 v) ∧ Below w.heap.size w w' := by
  have HT := Lib.hid ht
  have HK := Lib.hid hk
  have H2 := Lib.hid h2
  have HV := Lib.hid hv
  have HY := Lib.hid hy
  clear hy
  clear ht hk h2 hv
  go_enter Tryz.func64, Tryz.ntmps64
  go_wp2_with fail
  go_loopw [8] (fun u wr => ∃ i : Nat, Hid (i ≤ n ∧ i ≤ k) ∧ u = .int .i64 i ∧ Hid (Below w.heap.size w wr)) (fun u _ => n - (RowKit.intOf u).toNat)
  case atStart => exact ⟨0, ⟨Nat.zero_le _, Nat.zero_le _⟩, rfl, Below.refl _ _⟩
  case round =>
    obtain ⟨i, Hi, rfl, HW⟩ := hrel
    by_cases hlt : i < n
    · have T0 : decide ((i : Int) < (n : Int)) = true := by simp <;> omega
      have T0' : decide (i < n) = true := decide_eq_true hlt
      obtain ⟨i', hi'⟩ : ∃ z, z = i + 1 := ⟨_, rfl⟩
      have x0 : IntKind.i64.wrap ((i : Int) + 1) = (i' : Int) := by have := H2.out; rw [IntKind.wrap_i64]; omega
      obtain ⟨b, off, rfl, hb, hX⟩ := (HT.out.below (Nat.le_refl _) HW.out).at hlt
      have k0 : (0 : Int) ≤ (i : Int) := by omega
      have k1 : (i : Int) < (n : Int) := by omega
      have hyr : BoxS wr g L := HY.out.below HW.out
      have HMS : Hid (n - (RowKit.intOf (Value.int .i64 (i' : Int))).toNat < n - (RowKit.intOf (Value.int .i64 (i : Int))).toNat) := by show _ < _; simp [RowKit.intOf]; omega
      rcases first_at HK.out hlt Hi.out.2 with ⟨hp, hik⟩ | ⟨hp, hik⟩
      · have KK := Lib.hid (p_outW L g (X i) true hp.symm hL wr hyr)
        have HR : Hid ((i : Int) = v) := by show (i : Int) = v; rw [HV.out, hik, if_pos (by omega)]
        clear hi' hp hik hyr
        go_wp2_with (first | (go_at_call 44; (with_reducible refine (KK.out).mono ?_); rintro e w1 ⟨rfl, hb1⟩; obtain ⟨hc1, hf1⟩ := bcell hb1; have hz1 := hb1.size; (try simp at hz1); (try simp only [heap_drew, World.heap_drewN] at hz1); (try simp only [heap_drew, World.heap_drewN] at hc1); (try simp only [heap_drew, World.heap_drewN] at hf1); (try have hs1 := Nat.lt_of_succ_le hz1); (try have hs2 := Nat.lt_of_succ_lt hs1); (try have y0 : w.heap.size < w1.heap.size := by omega); (try have y1 : w.heap.size + 1 < w1.heap.size := by omega); (try have y2 : w.heap.size + 2 < w1.heap.size := by omega)))
        go_ret
        refine ⟨ret_int HR.out, ?_⟩
        have := HW.out
        (repeat' (first | assumption | exact Below.refl _ _ | exact Below.size (by assumption) | (refine Below.setCell ?_ ?_ _) | (refine Below.alloc ?_ ?_ _) | (refine Below.drew ?_) | (refine below_drewN ?_ _) | (refine Below.trans ?_ (Below.mono ‹Below _ _ _› ?_)) | omega | (simp; done) | (simp; omega) | (simp at *; omega)))
      · have KK := Lib.hid (p_outW L g (X i) false hp.symm hL wr hyr)
        have HI' : Hid (i' ≤ n ∧ i' ≤ k) := by show _ ∧ _; omega
        clear hi' hp hik hyr
        go_wp2_with (first | (go_at_call 44; (with_reducible refine (KK.out).mono ?_); rintro e w1 ⟨rfl, hb1⟩; obtain ⟨hc1, hf1⟩ := bcell hb1; have hz1 := hb1.size; (try simp at hz1); (try simp only [heap_drew, World.heap_drewN] at hz1); (try simp only [heap_drew, World.heap_drewN] at hc1); (try simp only [heap_drew, World.heap_drewN] at hf1); (try have hs1 := Nat.lt_of_succ_le hz1); (try have hs2 := Nat.lt_of_succ_lt hs1); (try have y0 : w.heap.size < w1.heap.size := by omega); (try have y1 : w.heap.size + 1 < w1.heap.size := by omega); (try have y2 : w.heap.size + 2 < w1.heap.size := by omega)))
        go_roundw
        case rel => exact ⟨i', HI', rfl, HW.out.trans (hb1.mono HW.out.size)⟩
        case measure => exact HMS.out
    · have e : i = n := by have := Hi.out; omega
      have HR : Hid ((-1 : Int) = v) := by show (-1 : Int) = v; rw [HV.out, if_neg (by have := Hi.out; omega)]
      have T0 : decide ((i : Int) < (n : Int)) = false := by simp <;> omega
      have T0' : decide (i < n) = false := decide_eq_false hlt
      clear e hlt
      go_wp2_with fail
      go_ret
      exact ⟨ret_int HR.out, HW.out⟩
theorem has_outW (A : Option Addr) (n c : Nat) (X : Nat → ByteArray) (L : List ByteArray) (hL : L.length ≤ 2000) (g : Nat) (w : World) (h2 : n ≤ 2000) (ht : StrIn w A n X) (hy : BoxS w g L) (f : Bool) (hf : f = true ↔ ∃ j, j < n ∧ (fun j => boolOf (¬ X j ∈ L)) j = true) :
    Calls Tryz.prog 30 #[.slice A n c, .func (.func 44) #[] #[.pointer (some ⟨g, 0, none⟩)]] w fun e w' => e = .returned (.bool f) ∧ Below w.heap.size w w' := by
  obtain ⟨k, hk⟩ := first_ex (fun j => boolOf (¬ X j ∈ L)) n
  have hany := first_any hk
  have S := Lib.hid (find_outW A n c k X L hL g w h2 ht hy hk _ rfl)
  by_cases hkn : k < n
  · have hft : f = true := hf.2 (hany.1 hkn)
    rw [if_pos hkn] at S
    have t : decide ((0 : Int) ≤ (k : Int)) = true := decide_eq_true (by omega)
    subst hft
    clear hk hany hkn hf ht h2 hy hL
    go_enter Tryz.func30, Tryz.ntmps30
    go_wp2_with (first | (go_at_call 64; (with_reducible refine (S.out).mono ?_); rintro e w1 ⟨rfl, hb1⟩; obtain ⟨hc1, hf1⟩ := bcell hb1; have hz1 := hb1.size; (try simp at hz1); (try simp only [heap_drew, World.heap_drewN] at hz1); (try simp only [heap_drew, World.heap_drewN] at hc1); (try simp only [heap_drew, World.heap_drewN] at hf1); (try have hs1 := Nat.lt_of_succ_le hz1); (try have hs2 := Nat.lt_of_succ_lt hs1); (try have y0 : w.heap.size < w1.heap.size := by omega); (try have y1 : w.heap.size + 1 < w1.heap.size := by omega); (try have y2 : w.heap.size + 2 < w1.heap.size := by omega)))
    go_ret
    refine ⟨rfl, ?_⟩
    (repeat' (first | assumption | exact Below.refl _ _ | exact Below.size (by assumption) | (refine Below.setCell ?_ ?_ _) | (refine Below.alloc ?_ ?_ _) | (refine Below.drew ?_) | (refine below_drewN ?_ _) | (refine Below.trans ?_ (Below.mono ‹Below _ _ _› ?_)) | omega | (simp; done) | (simp; omega) | (simp at *; omega)))
  · have hft : f = false := by
      cases f with
      | false => rfl
      | true => exact absurd (hany.2 (hf.1 rfl)) hkn
    rw [if_neg hkn] at S
    subst hft
    clear hk hany hkn hf ht h2 hy hL
    go_enter Tryz.func30, Tryz.ntmps30
    go_wp2_with (first | (go_at_call 64; (with_reducible refine (S.out).mono ?_); rintro e w1 ⟨rfl, hb1⟩; obtain ⟨hc1, hf1⟩ := bcell hb1; have hz1 := hb1.size; (try simp at hz1); (try simp only [heap_drew, World.heap_drewN] at hz1); (try simp only [heap_drew, World.heap_drewN] at hc1); (try simp only [heap_drew, World.heap_drewN] at hf1); (try have hs1 := Nat.lt_of_succ_le hz1); (try have hs2 := Nat.lt_of_succ_lt hs1); (try have y0 : w.heap.size < w1.heap.size := by omega); (try have y1 : w.heap.size + 1 < w1.heap.size := by omega); (try have y2 : w.heap.size + 2 < w1.heap.size := by omega)))
    go_ret
    refine ⟨rfl, ?_⟩
    (repeat' (first | assumption | exact Below.refl _ _ | exact Below.size (by assumption) | (refine Below.setCell ?_ ?_ _) | (refine Below.alloc ?_ ?_ _) | (refine Below.drew ?_) | (refine below_drewN ?_ _) | (refine Below.trans ?_ (Below.mono ‹Below _ _ _› ?_)) | omega | (simp; done) | (simp; omega) | (simp at *; omega)))

theorem has_subW {B : Nat} {A : Option Addr} {N c g : Nat} {R L : List ByteArray} {w : World} (hN : N = R.length) (h : w.ownsRow B 9 1 (.slice A N c) R.length (sc R)) (hb : N ≤ 2000) (hL : L.length ≤ 2000) (hB : BoxS w g L) (hs : ∀ s, s ∈ R → s ∈ L) :
    Calls Tryz.prog 30 #[.slice A N c, .func (.func 44) #[] #[.pointer (some ⟨g, 0, none⟩)]] w fun e w' => e = .returned (.bool false) ∧ Below w.heap.size w w' := by
  refine has_outW A N c _ L hL g w hb (own_strin hN h hb) hB false ⟨fun e => (by cases e), ?_⟩
  rintro ⟨j, hj, hp⟩
  refine absurd (hs _ ?_) (of_boolOf hp)
  show R.getD j ByteArray.empty ∈ R
  have : j < R.length := by omega
  simp [List.getD, this]
end Go.Proofs.YtghefgifhebniaaGreatDoor

namespace Go.Proofs.YtghefgifhebniaaGreatDoor
open Go.RowKit Go.Sort
set_option linter.unusedVariables false
set_option linter.unusedSimpArgs false

set_option maxRecDepth 100000 in
set_option maxHeartbeats 8000000 in
theorem netdual (NA LA : Option Addr) (n nc m lc : Nat) (D : Nds) (K : Lks) (i k : Nat) (hi : i ≤ 255) (hk : k ≤ 255) (w : World) (hD : NdIn w NA n D) (hK : LkIn w LA m K) (hE : Env w) :
    Calls Tryz.prog 5 #[.agg #[.slice NA n nc, .slice LA m lc], .int .u8 (i : Int), .int .u8 (k : Int)] w fun e w' => e = .returned (.bool true) ∧ Below w.heap.size w w' := by
  have hal : Below w.heap.size w (w.alloc (Obj.cells #[.slice NA n nc, .slice LA m lc] 25)) := (Below.refl _ w).alloc (Nat.le_refl _) _
  have HAL := Lib.hid hal
  have HB0 : Hid (Blk (w.alloc (Obj.cells #[.slice NA n nc, .slice LA m lc] 25)) w.heap.size 25 #[.slice NA n nc, .slice LA m lc]) := Blk.new _ _ _
  have HE0 := Lib.hid (hE.below hal)
  have HD := Lib.hid hD
  have HK := Lib.hid hK
  clear hD hK hE hal
  obtain ⟨V, hV⟩ : ∃ V, Hid (V = boolOf (lgP D n K m)) := ⟨_, rfl⟩
  go_enter Tryz.func5, Tryz.ntmps5
  go_upto_region 3 with (first
    | (go_at_call 14
       with_reducible refine (awake26 _ HE0.out).mono ?_
       rintro e w1 ⟨rfl, hb1⟩
       have HB1 := Lib.hid (below_step HAL.out hb1)
       have HBB := Lib.hid (HB0.out.call hb1)
       clear hb1))
  obtain ⟨y0, y1⟩ := blk2 HBB.out
  have SL : Hid (Calls Tryz.prog 15 #[.agg #[.slice NA n nc, .slice LA m lc]] w1 fun e w' => e = .returned (.bool V) ∧ Below w1.heap.size w1 w') := by rw [hV.out]; exact tlarge NA LA n nc m lc D K w1 (HD.out.below (Nat.le_refl _) HB1.out) (HK.out.below (Nat.le_refl _) HB1.out)
  by_cases hl : lgP D n K m
  · obtain rfl : V = true := hV.out.trans (boolOf_true hl)
    clear hl hV
    go_wp2_with (first
      | (go_at_call 15
         with_reducible refine SL.out.mono ?_
         rintro e w2 ⟨rfl, hb2⟩
         have HB2 := Lib.hid (below_step HB1.out hb2)
         clear hb2))
    go_ret
    exact ⟨rfl, HB2.out⟩
  obtain rfl : V = false := hV.out.trans (boolOf_false hl)
  have HZ := Lib.hid (lg_sz hl)
  clear hl hV
  have SV : Hid (∀ w', Below w.heap.size w w' → Calls Tryz.prog 18 #[.agg #[.slice NA n nc, .slice LA m lc]] w' fun e w'' => e = .returned (.bool (boolOf (netP D n K m))) ∧ Below w'.heap.size w' w'') := fun w' hb => wvalidN NA LA n nc m lc D K HZ.out w' (HD.out.below (Nat.le_refl _) hb) (HK.out.below (Nat.le_refl _) hb)
  by_cases hP : netP D n K m
  case neg =>
    rw [boolOf_false hP] at SV
    clear hP hi hk
    go_wp2_with (first
      | (go_at_call 15
         with_reducible refine (SL.out).mono ?_
         rintro e w2 ⟨rfl, hb2⟩
         have HB2 := Lib.hid (below_step HB1.out hb2)
         have HX2 := Lib.hid (HBB.out.call hb2)
         obtain ⟨y0, y1⟩ := blk2 HX2.out
         clear hb2)
      | (go_at_call 18
         with_reducible refine (SV.out _ HB2.out).mono ?_
         rintro e w3 ⟨rfl, hb2⟩
         have HB3 := Lib.hid (below_step HB2.out hb2)
         have HX3 := Lib.hid (HX2.out.call hb2)
         obtain ⟨y0, y1⟩ := blk2 HX3.out
         clear hb2))
    go_ret
    exact ⟨rfl, HB3.out⟩
  rw [boolOf_true hP] at SV
  have HP := Lib.hid hP
  by_cases hn0 : n = 0
  case pos =>
    subst hn0
    clear hP hi hk HP
    go_wp2_with (first
      | (go_at_call 15
         with_reducible refine (SL.out).mono ?_
         rintro e w2 ⟨rfl, hb2⟩
         have HB2 := Lib.hid (below_step HB1.out hb2)
         have HX2 := Lib.hid (HBB.out.call hb2)
         obtain ⟨y0, y1⟩ := blk2 HX2.out
         clear hb2)
      | (go_at_call 18
         with_reducible refine (SV.out _ HB2.out).mono ?_
         rintro e w3 ⟨rfl, hb2⟩
         have HB3 := Lib.hid (below_step HB2.out hb2)
         have HX3 := Lib.hid (HX2.out.call hb2)
         obtain ⟨y0, y1⟩ := blk2 HX3.out
         clear hb2))
    go_ret
    exact ⟨rfl, HB3.out⟩
  have hnp : 0 < n := by omega
  obtain ⟨a, ha⟩ : ∃ a : Nat, a = i % n := ⟨_, rfl⟩
  obtain ⟨b, hb0⟩ : ∃ b : Nat, b = k % n := ⟨_, rfl⟩
  have Ha : Hid (a < n) := by show a < n; rw [ha]; exact Nat.mod_lt _ hnp
  have Hb : Hid (b < n) := by show b < n; rw [hb0]; exact Nat.mod_lt _ hnp
  have E1 : Int.tmod (i : Int) (n : Int) = (a : Int) := by rw [ha]; exact Int.ofNat_tmod i n
  have E2 : Int.tmod (k : Int) (n : Int) = (b : Int) := by rw [hb0]; exact Int.ofNat_tmod k n
  have E3 : IntKind.i64.wrap (i : Int) = (i : Int) := by rw [IntKind.wrap_i64]; omega
  have E4 : IntKind.i64.wrap (k : Int) = (k : Int) := by rw [IntKind.wrap_i64]; omega
  have E5 : IntKind.i64.wrap (a : Int) = (a : Int) := by have := Ha.out; have := HZ.out.n2; rw [IntKind.wrap_i64]; omega
  have E6 : IntKind.i64.wrap (b : Int) = (b : Int) := by have := Hb.out; have := HZ.out.n2; rw [IntKind.wrap_i64]; omega
  have N1 : ((n : Int) == 0) = false := by rw [beq_eq_false_iff_ne]; omega
  have N2 : (n == 0) = false := by rw [beq_eq_false_iff_ne]; omega
  have N3 : ¬ (n : Int) = 0 := by omega
  have N4 : ¬ n = 0 := hn0
  have A0 : (0 : Int) ≤ (a : Int) := by omega
  have A1 : (a : Int) < (n : Int) := by have := Ha.out; omega
  have B0 : (0 : Int) ≤ (b : Int) := by omega
  have B1 : (b : Int) < (n : Int) := by have := Hb.out; omega
  have HN2 : Hid (n ≤ 2000) := HZ.out.n2
  have SA : Hid (∀ w', Below w.heap.size w w' → Calls Tryz.prog 23 #[.agg #[.slice NA n nc, .slice LA m lc], .string (D.Nm a)] w' fun e w'' => ∃ u, e = .returned (.tuple #[u, .int .i64 0]) ∧ w''.ownsRow w'.heap.size 9 1 u (nmL D (wayB (eY D n K) (eX D n K) m (a : Int)) n).length (sc (nmL D (wayB (eY D n K) (eX D n K) m (a : Int)) n)) ∧ Below w'.heap.size w' w'') := fun w' hb => by
    refine (tnabove NA LA n nc m lc D K (D.Nm a) HZ.out w' (HD.out.below (Nat.le_refl _) hb) (HK.out.below (Nat.le_refl _) hb)).mono ?_
    have hf : fnd D.Nm n (D.Nm a) = (a : Int) := (HP.out.2.2.1 a Ha.out).2
    rintro e w'' (⟨h, _⟩ | ⟨_, ⟨h, _⟩ | ⟨_, u, h1, h2⟩⟩)
    · exact absurd HP.out h
    · omega
    · rw [hf] at h2
      exact ⟨u, h1, h2.1, h2.2⟩
  have SB : Hid (∀ w', Below w.heap.size w w' → Calls Tryz.prog 24 #[.agg #[.slice NA n nc, .slice LA m lc], .string (D.Nm b)] w' fun e w'' => ∃ u, e = .returned (.tuple #[u, .int .i64 0]) ∧ w''.ownsRow w'.heap.size 9 1 u (nmL D (wayB (eX D n K) (eY D n K) m (b : Int)) n).length (sc (nmL D (wayB (eX D n K) (eY D n K) m (b : Int)) n)) ∧ Below w'.heap.size w' w'') := fun w' hb => by
    refine (tnbelow NA LA n nc m lc D K (D.Nm b) HZ.out w' (HD.out.below (Nat.le_refl _) hb) (HK.out.below (Nat.le_refl _) hb)).mono ?_
    have hf : fnd D.Nm n (D.Nm b) = (b : Int) := (HP.out.2.2.1 b Hb.out).2
    rintro e w'' (⟨h, _⟩ | ⟨_, ⟨h, _⟩ | ⟨_, u, h1, h2⟩⟩)
    · exact absurd HP.out h
    · omega
    · rw [hf] at h2
      exact ⟨u, h1, h2.1, h2.2⟩
  have SC : Hid (∀ w', Below w.heap.size w w' → Calls Tryz.prog 24 #[.agg #[.slice NA n nc, .slice LA m lc], .string (D.Nm a)] w' fun e w'' => ∃ u, e = .returned (.tuple #[u, .int .i64 0]) ∧ w''.ownsRow w'.heap.size 9 1 u (nmL D (wayB (eX D n K) (eY D n K) m (a : Int)) n).length (sc (nmL D (wayB (eX D n K) (eY D n K) m (a : Int)) n)) ∧ Below w'.heap.size w' w'') := fun w' hb => by
    refine (tnbelow NA LA n nc m lc D K (D.Nm a) HZ.out w' (HD.out.below (Nat.le_refl _) hb) (HK.out.below (Nat.le_refl _) hb)).mono ?_
    have hf : fnd D.Nm n (D.Nm a) = (a : Int) := (HP.out.2.2.1 a Ha.out).2
    rintro e w'' (⟨h, _⟩ | ⟨_, ⟨h, _⟩ | ⟨_, u, h1, h2⟩⟩)
    · exact absurd HP.out h
    · omega
    · rw [hf] at h2
      exact ⟨u, h1, h2.1, h2.2⟩
  have HD1 : Hid (boolOf (D.Nm b ∈ nmL D (wayB (eY D n K) (eX D n K) m (a : Int)) n) = boolOf (D.Nm a ∈ nmL D (wayB (eX D n K) (eY D n K) m (b : Int)) n)) := by
    show _ = _
    by_cases h : D.Nm a ∈ nmL D (wayB (eX D n K) (eY D n K) m (b : Int)) n
    · rw [boolOf_true h, boolOf_true ((way_dual HP.out Ha.out Hb.out).2 h)]
    · rw [boolOf_false h, boolOf_false (fun g => h ((way_dual HP.out Ha.out Hb.out).1 g))]
  have HJ : Hid (D.Nm a ∈ nmL D (wayB (eX D n K) (eY D n K) m (b : Int)) n → ∀ s, s ∈ nmL D (wayB (eX D n K) (eY D n K) m (a : Int)) n → s ∈ nmL D (wayB (eX D n K) (eY D n K) m (b : Int)) n) := fun h s hs => way_join HP.out Ha.out h s hs
  have HL1 : Hid (∀ o, (nmL D o n).length ≤ 2000) := fun o => by have := nmL_len D o n; have := HN2.out; omega
  obtain ⟨LA', hLA⟩ : ∃ L, nmL D (wayB (eY D n K) (eX D n K) m (a : Int)) n = L := ⟨_, rfl⟩
  obtain ⟨LB', hLB⟩ : ∃ L, nmL D (wayB (eX D n K) (eY D n K) m (b : Int)) n = L := ⟨_, rfl⟩
  obtain ⟨LC', hLC⟩ : ∃ L, nmL D (wayB (eX D n K) (eY D n K) m (a : Int)) n = L := ⟨_, rfl⟩
  have HLA : Hid (LA'.length ≤ 2000) := by rw [← hLA]; exact HL1.out _
  have HLB : Hid (LB'.length ≤ 2000) := by rw [← hLB]; exact HL1.out _
  have HLC : Hid (LC'.length ≤ 2000) := by rw [← hLC]; exact HL1.out _
  rw [hLA] at SA HD1
  rw [hLB] at SB HD1 HJ
  rw [hLC] at SC HJ
  clear hLA hLB hLC HL1 hP hi hk hn0 hnp ha hb0
  go_upto_region 5 with (first
    | (go_at_call 15
       with_reducible refine (SL.out).mono ?_
       rintro e w2 ⟨rfl, hb2⟩
       have HB2 := Lib.hid (below_step HB1.out hb2)
       have HX2 := Lib.hid (HBB.out.call hb2)
       obtain ⟨y0, y1⟩ := blk2 HX2.out
       clear hb2)
    | (go_at_call 18
       with_reducible refine (SV.out _ HB2.out).mono ?_
       rintro e w3 ⟨rfl, hb2⟩
       have HB3 := Lib.hid (below_step HB2.out hb2)
       have HX3 := Lib.hid (HX2.out.call hb2)
       obtain ⟨y0, y1⟩ := blk2 HX3.out
       clear hb2))
  obtain ⟨bn, on, hNA, hbn, hC, _⟩ := (HD.out.below (Nat.le_refl _) HB3.out).at Ha.out
  obtain ⟨bn', on', hNA', _, hC', _⟩ := (HD.out.below (Nat.le_refl _) HB3.out).at Hb.out
  have hsame := hNA.symm.trans hNA'
  cases hsame
  subst hNA
  have c0 := hC 0 _ rfl
  have d0 := hC' 0 _ rfl
  simp only [Nat.add_zero] at c0 d0
  clear hC hC' hNA' hbn
  obtain ⟨sa, hsa⟩ : ∃ z, D.Nm a = z := ⟨_, rfl⟩
  obtain ⟨sb, hsb⟩ : ∃ z, D.Nm b = z := ⟨_, rfl⟩
  rw [hsa] at c0 SA SC HD1 HJ
  rw [hsb] at d0 SB HD1
  clear hsa hsb
  go_quiet (fail)
  have HBq : Hid (Below w.heap.size w (w3.drewN nq)) := below_drewN HB3.out _
  have HXq : Hid (Blk (w3.drewN nq) w.heap.size 25 #[.slice (some ⟨bn, on, none⟩) n nc, .slice LA m lc]) := HX3.out.drewN _
  obtain ⟨y0, y1⟩ := blk2 HXq.out
  clear c0 d0 E1 E2 E3 E4 E5 E6 N1 N2 N3 N4 A0 A1 B0 B1
  go_upto_region 8 with (first
    | (go_at_call 23
       with_reducible refine (SA.out _ HBq.out).mono ?_
       rintro e w4 ⟨u4, rfl, ho, hb2⟩
       have HB4 := Lib.hid (below_step HBq.out hb2)
       have HX4 := Lib.hid (HXq.out.call hb2)
       obtain ⟨y0, y1⟩ := blk2 HX4.out
       obtain ⟨A4, c4, rfl⟩ := nr_form ho
       have HO4 := Lib.hid ho
       clear ho
       clear hb2)
    | (go_at_call 24
       with_reducible refine (SB.out _ HB4.out).mono ?_
       rintro e w5 ⟨u5, rfl, ho, hb2⟩
       have HB5 := Lib.hid (below_step HB4.out hb2)
       have HX5 := Lib.hid (HX4.out.call hb2)
       obtain ⟨y0, y1⟩ := blk2 HX5.out
       obtain ⟨A5, c5, rfl⟩ := nr_form ho
       have HQ5 := Lib.hid ho
       clear ho
       have HO5 := Lib.hid (own_below HO4.out hb2)
       clear hb2))
  have hal : Below w5.heap.size w5 (w5.alloc (Obj.cells #[.slice A5 LB'.length c5] 41)) := (Below.refl _ w5).alloc (Nat.le_refl _) _
  have HBX : Hid (Blk (w5.alloc (Obj.cells #[.slice A5 LB'.length c5] 41)) w5.heap.size 41 #[.slice A5 LB'.length c5]) := Blk.new _ _ _
  have HB6 := Lib.hid (below_step HB5.out hal)
  have HX6 := Lib.hid (HX5.out.call hal)
  have HO6 := Lib.hid (own_below HO5.out hal)
  have HQ6 := Lib.hid (own_below HQ5.out hal)
  clear hal
  generalize w5.alloc (Obj.cells #[.slice A5 LB'.length c5] 41) = w6 at HBX HB6 HX6 HO6 HQ6 ⊢
  generalize w5.heap.size = G at HBX ⊢
  have HBS : Hid (BoxS w6 G LB') := ⟨HBX.out.lt, _, _, HBX.out.cell 0, HQ6.out⟩
  obtain ⟨y0, y1⟩ := blk2 HX6.out
  go_upto_region 9 with (first
    | (go_at_call 24
       with_reducible refine (SC.out _ HB6.out).mono ?_
       rintro e w7 ⟨u7, rfl, ho, hb2⟩
       have HB7 := Lib.hid (below_step HB6.out hb2)
       obtain ⟨A7, c7, rfl⟩ := nr_form ho
       have HR7 := Lib.hid ho
       have HO7 := Lib.hid (own_below HO6.out hb2)
       have HQ7 := Lib.hid (own_below HQ6.out hb2)
       have HS7 := Lib.hid (HBS.out.below hb2)
       have HBX7 := Lib.hid (HBX.out.call hb2)
       clear ho hb2))
  have hs0 : w7.cell? ⟨G, 0, none⟩ = some (.slice A5 LB'.length c5) := HBX7.out.cell 0
  have HS : Hid (∀ w', Below w7.heap.size w7 w' → w'.cell? ⟨G, 0, none⟩ = some (.slice A5 LB'.length c5)) := fun w' hb => (HBX7.out.call hb).cell 0
  obtain ⟨V, hV⟩ : ∃ V, boolOf (sa ∈ LB') = V := ⟨_, rfl⟩
  have S1 : Hid (∀ w', Below w7.heap.size w7 w' → Calls Tryz.prog 29 #[.slice A4 LA'.length c4, .string sb] w' fun e w'' => e = .returned (.bool V) ∧ Below w'.heap.size w' w'') := fun w' hb => by
    have h := ctn sb (own_below HO7.out hb) HLA.out
    rw [HD1.out, hV] at h
    exact h
  have S2 : Hid (∀ w', Below w7.heap.size w7 w' → Calls Tryz.prog 29 #[.slice A5 LB'.length c5, .string sa] w' fun e w'' => e = .returned (.bool V) ∧ Below w'.heap.size w' w'') := fun w' hb => by
    have h := ctn sa (own_below HQ7.out hb) HLB.out
    rw [hV] at h
    exact h
  have HVV := Lib.hid hV
  clear hV y0 y1
  cases V
  all_goals
    go_region_held3 (fun w' => w'.cell? ⟨G, 0, none⟩ = some (.slice A5 LB'.length c5)) (first
      | exact hs0
      | exact HS.out _ hq9
      | exact HS.out _ hq8
      | exact HS.out _ (Below.refl _ w7).drew) (first
      | (go_at_call 29
         with_reducible refine (S1.out _ ?_).mono ?_
         focus (first | exact Below.refl _ _ | exact (Below.refl _ _).drew)
         rintro e w8 ⟨rfl, hb8⟩
         have hq8 : Below w7.heap.size w7 w8 := by first | exact hb8 | exact (Below.refl _ w7).drew.trans hb8
         clear hb8)
      | (go_at_call 29
         with_reducible refine (S2.out _ ?_).mono ?_
         focus (first | exact hq8 | exact hq8.drew)
         rintro e w9 ⟨rfl, hb9⟩
         have hq9 : Below w7.heap.size w7 w9 := by first | exact hq8.trans (hb9.mono hq8.size) | exact hq8.drew.trans (hb9.mono hq8.size)
         have HQ9 := Lib.hid hq9
         clear hb9))
  case false =>
    have z0 : w9.cell? ⟨G, 0, none⟩ = some (.slice A5 LB'.length c5) := HS.out _ HQ9.out
    go_wp2_with (first
      | (go_at_call 29
         with_reducible refine (S2.out _ HQ9.out).mono ?_
         rintro e w10 ⟨rfl, hb10⟩
         have HW10 := Lib.hid (below_step HB7.out (below_step HQ9.out hb10))
         clear hb10))
    go_ret
    exact ⟨rfl, HW10.out⟩
  case true =>
    have z0 : w9.cell? ⟨G, 0, none⟩ = some (.slice A5 LB'.length c5) := HS.out _ HQ9.out
    go_wp2_with (first
      | (go_at_call 29
         with_reducible refine (S2.out _ HQ9.out).mono ?_
         rintro e w10 ⟨rfl, hb10⟩
         have HW10 := Lib.hid (below_step HQ9.out hb10)
         clear hb10)
      | (go_at_call 30
         with_reducible refine (has_subD rfl (own_below HR7.out HW10.out) HLC.out HLB.out (HS7.out.below HW10.out) (HJ.out (of_boolOf HVV.out))).mono ?_
         rintro e w11 ⟨rfl, hb11⟩
         have HW11 := Lib.hid (below_step HB7.out (below_step HW10.out hb11))
         clear hb11))
    go_ret
    exact ⟨rfl, HW11.out⟩
end Go.Proofs.YtghefgifhebniaaGreatDoor

namespace Go.Proofs.YtghefgifhebniaaGreatDoor.networkDualRow
open Go.Proofs.YtghefgifhebniaaGreatDoor Go.RowKit Go.WideShapes Go.ChangeShapes Go.ChangeAt Go.Deep Go.Joins
set_option linter.unusedVariables false
set_option linter.unusedSimpArgs false

theorem star_es : "*" ++ "errors.errorString" = "*errors.errorString" := by decide
theorem row_es (u : TypeId) (h : Tryz.prog.typeName? 3 u = some "*errors.errorString") : u = 238 :=
  typeName_ptr_named (nm := "errors.errorString") (by rw [star_es]; kernel_rfl) (by kernel_rfl) (by decide) u (by rw [star_es]; exact h)
set_option maxRecDepth 100000 in
/-- What the listed variables give. -/
theorem env_of_laid {W : World} (h : laidMetH Tryz.prog Rows.networkDualRow.laid W) : Env W := by
  rw [MakeChecks.laidMetH_plain _ _ _ (by kernel_rfl)] at h
  have h3 : laidMet Tryz.prog (("internal/strconv.uint64pow10", Lib.tabData .u64 Lib.pow10Tab) :: [("unicode/utf8.acceptRanges", Rows.laid_unicode_utf8_acceptRanges), ("strconv.ErrRange", Rows.laid_strconv_ErrRange), ("strconv.ErrSyntax", Rows.laid_strconv_ErrSyntax), ("unicode/utf8.first", Rows.laid_unicode_utf8_first)]) W := (h.tail).tail
  have ht := Lib.tabIs_of_head (g := 5) (t := 242) (e := 204) (n := 20) (by kernel_rfl) (by kernel_rfl) Tryz.underlying242 Tryz.underlying204 (by kernel_rfl) (by kernel_rfl) h3
  obtain ⟨a1, s1, hv1, _⟩ := laid_sentinel h3.tail.tail (g := 4) (ti := 116) (tp := 238) (te := 240) (ts := 9) (by kernel_rfl) (by kernel_rfl) Tryz.underlying116 row_es Tryz.underlying238 Tryz.underlying240 rfl rfl Tryz.underlying9 (by kernel_rfl) (by kernel_rfl)
  obtain ⟨a2, s2, hv2, _⟩ := laid_sentinel h3.tail.tail.tail (g := 3) (ti := 116) (tp := 238) (te := 240) (ts := 9) (by kernel_rfl) (by kernel_rfl) Tryz.underlying116 row_es Tryz.underlying238 Tryz.underlying240 rfl rfl Tryz.underlying9 (by kernel_rfl) (by kernel_rfl)
  exact ⟨ht, ⟨_, _, hv2⟩, ⟨_, _, hv1⟩⟩
/-- A start that meets the condition. -/
theorem door_met (os : Os) (args : Array Value) : laidMetH Tryz.prog Rows.networkDualRow.laid ((World.laidAll Tryz.prog os Rows.networkDualRow.laid).forCall (fun _ _ => 0) ⟨#[], args, []⟩).memory := by
  rw [MakeChecks.laidMetH_plain _ _ _ (by kernel_rfl)]
  exact laidMet_laidAll _ (by kernel_rfl) (by kernel_rfl)
end Go.Proofs.YtghefgifhebniaaGreatDoor.networkDualRow

/- Merged texts of these proofs: NAx, NEq, AwL, LFn, LNm, ROr, ROn, LEd. -/
import Derived.Test.YtghefgifhebniaaGreatDoorMgJ
import Derived.Test.YtghefgifhebniaaGreatDoorMgE
import Derived.Test.YtghefgifhebniaaGreatDoorNetE
import Derived.Test.YtghefgifhebniaaGreatDoorNPr
import Derived.Test.YtghefgifhebniaaGreatDoorMgC
import Derived.Test.YtghefgifhebniaaGreatDoorNetW
import Derived.Test.YtghefgifhebniaaGreatDoorMgD
namespace Go.Proofs.YtghefgifhebniaaGreatDoor
open Go.RowKit Go.Sort
set_option linter.unusedVariables false
set_option linter.unusedSimpArgs false

def exA : Ndr := ⟨⟨#[97]⟩, 1, 0, 0, 1000, 3000, [(0, 0), (2000, 1500000)], false, 0⟩
def exO : Ndr := ⟨⟨#[111]⟩, 3, 0, 50000, 800, 2000, [], false, 0⟩
def exP : Lkr := ⟨⟨#[112]⟩, ⟨#[97]⟩, ⟨#[111]⟩, 1, 50000, 1000, 900, ⟨#[99, 51, 48, 48]⟩, 0, 0, []⟩
def ex1 : List UInt8 := [109, 97, 110, 104, 111, 108, 101, 32, 97, 32, 48, 32, 48, 32, 49, 48, 48, 48, 32, 51, 48, 48, 48, 32, 48, 58, 48, 32, 50, 48, 48, 48, 58, 49, 53, 48, 48, 48, 48, 48]
def ex2 : List UInt8 := [111, 117, 116, 102, 97, 108, 108, 32, 111, 32, 48, 32, 53, 48, 48, 48, 48, 32, 56, 48, 48, 32, 50, 48, 48, 48]
def ex3 : List UInt8 := [112, 105, 112, 101, 32, 112, 32, 97, 32, 111, 32, 53, 48, 48, 48, 48, 32, 49, 48, 48, 48, 32, 57, 48, 48, 32, 99, 51, 48, 48]
def exS : ByteArray := ⟨(ex1 ++ [10] ++ (ex2 ++ [10] ++ (ex3 ++ [10]))).toArray⟩
theorem num_near {v : Int} (h : near v) : numOK v := atoi_itoa h.1 h.2
theorem near_of {v : Int} (h1 : -1000000 ≤ v) (h2 : v ≤ 10000000) : near v := by unfold near; omega
theorem tabA : tabT [(0, 0), (2000, 1500000)] := by
  refine ⟨by decide, by decide, fun k hk => ?_⟩
  have hk2 : k < 2 := hk
  match k, hk2 with
  | 0, _ => unfold goodAt inB; decide
  | 1, _ => unfold goodAt inB; decide
theorem is_exA : IsNd ex1 exA := ⟨⟨⟨by decide, by decide, by decide⟩, num_near (near_of (by decide) (by decide)), num_near (near_of (by decide) (by decide)), num_near (near_of (by decide) (by decide)), num_near (near_of (by decide) (by decide)), .inl ⟨rfl, tabA, rfl, rfl⟩⟩, by kernel_rfl⟩
theorem is_exO : IsNd ex2 exO := ⟨⟨⟨by decide, by decide, by decide⟩, num_near (near_of (by decide) (by decide)), num_near (near_of (by decide) (by decide)), num_near (near_of (by decide) (by decide)), num_near (near_of (by decide) (by decide)), .inr (.inr ⟨rfl, rfl, rfl, rfl⟩)⟩, by kernel_rfl⟩
theorem is_exP : IsLk ex3 exP := ⟨⟨⟨by decide, by decide, by decide⟩, ⟨by decide, by decide, by decide⟩, ⟨by decide, by decide, by decide⟩, num_near (near_of (by decide) (by decide)), .inl ⟨rfl, num_near (near_of (by decide) (by decide)), num_near (near_of (by decide) (by decide)), ⟨by decide, by decide, by decide⟩, rfl, rfl, rfl⟩⟩, by kernel_rfl⟩
theorem runs_ex : Runs [] [] (rln exS.data.toList) [exA, exO] [exP] := by
  have e : rln exS.data.toList = [ex1 ++ [10], ex2 ++ [10], ex3 ++ [10]] := by decide
  rw [e]
  exact .cons (.inl ⟨ex1, exA, rfl, is_exA, rfl, rfl, rfl⟩) (.cons (.inl ⟨ex2, exO, rfl, is_exO, rfl, rfl, rfl⟩) (.cons (.inr ⟨ex3, exP, rfl, is_exP, rfl, rfl⟩) (.nil _ _)))
def exD : Nds := ndsR [exA, exO] (fun _ => none) (fun _ => 0)
def exK : Lks := lksR [exP] (fun _ => none) (fun _ => 0)
theorem fnd_a (D : Nds) (h0 : D.Nm 0 = ⟨#[97]⟩) : fnd D.Nm 2 ⟨#[97]⟩ = 0 := (fnd_at (k := 0) ⟨by omega, fun j hj => by omega, fun _ => by simp [h0]⟩).trans (by simp)
theorem fnd_o (D : Nds) (h0 : D.Nm 0 = ⟨#[97]⟩) (h1 : D.Nm 1 = ⟨#[111]⟩) : fnd D.Nm 2 ⟨#[111]⟩ = 1 := (fnd_at (k := 1) ⟨by omega, fun j hj => by
  have : j = 0 := by omega
  subst this
  show decide (D.Nm 0 = ⟨#[111]⟩) = false
  rw [h0]; decide, fun _ => by simp [h1]⟩).trans (by simp)
theorem netV_ex : netV [exA, exO] [exP] := by
  unfold netV
  refine ⟨by decide, by decide, fun i hi => ?_, fun i hi => ?_⟩
  · have hi2 : i < 2 := hi
    match i, hi2 with
    | 0, _ =>
      refine ⟨⟨by decide, by show poP 0; decide, by show poP 0; decide, ⟨by show lvP 1000; decide, by show lvP 3000; decide⟩, .inr ⟨.inl rfl, by decide, ⟨tabA, rfl, rfl, rfl, by decide⟩, .inl ⟨rfl, rfl⟩⟩⟩, ?_⟩
      exact fnd_a _ rfl
    | 1, _ =>
      refine ⟨⟨by decide, by show poP 0; decide, by show poP 50000; decide, ⟨by show lvP 800; decide, by show lvP 2000; decide⟩, .inl ⟨rfl, by decide, rfl, rfl, rfl⟩⟩, ?_⟩
      exact fnd_o _ rfl rfl
  · have hi2 : i < 1 := hi
    obtain rfl : i = 0 := by omega
    have h0 := fnd_a (ndsR [exA, exO] (fun _ => none) (fun _ => 0)) rfl
    have h1 := fnd_o (ndsR [exA, exO] (fun _ => none) (fun _ => 0)) rfl rfl
    refine ⟨⟨by decide, by decide, by decide, by decide, by show lvP 1000; decide, by show lvP 900; decide, .inl ⟨rfl, by decide, by decide, rfl, rfl, rfl⟩⟩, ?_, ?_, ?_, ?_⟩
    · exact (fnd_at (k := 0) ⟨by simp, fun j hj => by omega, fun _ => by simp [lksR]⟩).trans (by simp)
    · exact h0.symm ▸ (by decide : (0 : Int) ≤ 0)
    · exact h1.symm ▸ (by decide : (0 : Int) ≤ 1)
    · show (ndsR [exA, exO] (fun _ => none) (fun _ => 0)).Kd (fnd (ndsR [exA, exO] (fun _ => none) (fun _ => 0)).Nm 2 ⟨#[97]⟩).toNat ≠ 3
      rw [h0]; decide
theorem exS_size : exS.size = 99 := rfl
/-- The example: nothing else can Parse answer. -/
theorem ntis_ex {N : List Ndr} {L : List Lkr} {k : Nat} {e : Int} (h : NtIs netV exS.data.toList N L k e) : N = [exA, exO] ∧ L = [exP] ∧ k = 0 ∧ e = 0 :=
  h.uniq (.ok _ _ (by rw [str_size, exS_size]; decide) runs_ex netV_ex)
theorem runs_exs {N : List Ndr} {L : List Lkr} (h : Runs [] [] (rln exS.data.toList) N L) : N.length ≤ 2000 ∧ L.length ≤ 2000 := by
  obtain ⟨rfl, rfl⟩ := h.det runs_ex
  exact ⟨by decide, by decide⟩
/-- One edge. -/
theorem way_one {X Y : Nat → Int} {i j z : Int} (hX : X 0 = i) (hY : Y 0 = j) : WayP X Y 1 i z ↔ z = j := by
  constructor
  · intro h
    refine Rch.closed (P := fun z => z = j) ?_ ?_ h
    · rintro z ⟨k, hk, _, hk2⟩
      obtain rfl : k = 0 := by omega
      rw [← hk2]; exact hY
    · intro k hk _
      obtain rfl : k = 0 := by omega
      exact hY
  · rintro rfl
    exact .src ⟨0, by omega, hX, hY⟩
theorem ord_one {X Y : Nat → Int} (hX : X 0 = 0) (hY : Y 0 = 1) : ordO 2 X Y 1 = [0, 1] := by
  have r2 : List.range 2 = [0, 1] := rfl
  have r1 : List.range 1 = [0] := rfl
  have p0 : pick 2 X Y 1 [] = some 0 := by
    have h0 : rdyB X Y 1 [] 0 = true := by unfold rdyB; rw [r1]; simp [hY]
    unfold pick; rw [r2, List.find?_cons, h0]
  have p1 : pick 2 X Y 1 [0] = some 1 := by
    have h0 : rdyB X Y 1 [0] 0 = false := by unfold rdyB; simp
    have h1 : rdyB X Y 1 [0] 1 = true := by unfold rdyB; rw [r1]; simp [hX]
    unfold pick; rw [r2, List.find?_cons, h0, List.find?_cons, h1]
  unfold ordO
  show ordL 2 X Y 1 2 [] = _
  rw [show ordL 2 X Y 1 2 [] = (match pick 2 X Y 1 [] with | none => [] | some v => ordL 2 X Y 1 1 ([] ++ [(v : Int)])) from rfl, p0]
  show ordL 2 X Y 1 1 [0] = _
  rw [show ordL 2 X Y 1 1 [0] = (match pick 2 X Y 1 [0] with | none => [0] | some v => ordL 2 X Y 1 0 ([0] ++ [(v : Int)])) from rfl, p1]
  rfl
theorem ordR_one {X Y : Nat → Int} (hX : X 0 = 0) (hY : Y 0 = 1) : ordR 2 X Y 1 = [0, 1] ∧ ordE 2 X Y 1 = 0 := by
  unfold ordR ordE
  rw [ord_one hX hY]
  exact ⟨rfl, rfl⟩
theorem nm_below {D : Nds} {X Y : Nat → Int} (h1 : D.Nm 1 = ⟨#[111]⟩) (hX : X 0 = 0) (hY : Y 0 = 1) : nmL D (wayB X Y 1 0) 2 = [⟨#[111]⟩] := by
  have w0 : wayB X Y 1 0 0 = false := by
    cases h : wayB X Y 1 0 0 with
    | false => rfl
    | true => have := (way_one hX hY).1 (wayB_iff.1 h); simp at this
  have w1 : wayB X Y 1 0 1 = true := wayB_iff.2 ((way_one hX hY).2 rfl)
  rw [nmL_succ, nmL_succ, w0, w1, h1]; rfl
theorem nm_above {D : Nds} {X Y : Nat → Int} (h0 : D.Nm 0 = ⟨#[97]⟩) (hX : X 0 = 1) (hY : Y 0 = 0) : nmL D (wayB X Y 1 1) 2 = [⟨#[97]⟩] := by
  have w1 : wayB X Y 1 1 1 = false := by
    cases h : wayB X Y 1 1 1 with
    | false => rfl
    | true => have := (way_one hX hY).1 (wayB_iff.1 h); simp at this
  have w0 : wayB X Y 1 1 0 = true := wayB_iff.2 ((way_one hX hY).2 rfl)
  rw [nmL_succ, nmL_succ, w0, w1, h0]; rfl
end Go.Proofs.YtghefgifhebniaaGreatDoor

namespace Go.Proofs.YtghefgifhebniaaGreatDoor
open Go.RowKit
set_option linter.unusedVariables false
set_option linter.unusedSimpArgs false

@[go_sem] theorem eq_pair (a b c d : Int) (w : World) : (Op.equalIn 10000 38 (.agg #[.int .i64 a, .int .i64 b]) (.agg #[.int .i64 c, .int .i64 d])).run Tryz.prog w = .ok (a == c && b == d) w := by
  have u3 := Tryz.underlying3
  have a3 := Tryz.isAgg3
  have z3 := Tryz.sizeOf3
  rw [show (10000 : Nat) = 9999 + 1 from rfl, Op.equalIn]
  simp only [Sem.run_bind, run_underlying Tryz.underlying38, Result.andThen_ok]
  simp only [Std.Legacy.Range.forIn_eq_forIn_range', Std.Legacy.Range.size, Nat.sub_zero, Nat.add_sub_cancel, Nat.div_one, List.range'_succ, List.range'_zero, List.forIn_cons, List.forIn_nil]
  go_simp
  by_cases h1 : a = c <;> by_cases h2 : b = d <;> simp [h1, h2]
set_option maxHeartbeats 2000000 in
theorem eequal (A B : Option Addr) (n m c d : Nat) (X Y X' Y' : Nat → Int) (w : World) (hA : TabIn w A n X Y) (hB : TabIn w B m X' Y') :
    Calls Tryz.prog 20 #[.slice A n c, .slice B m d] w fun e w' => e = .returned (.bool (boolOf (tabEq n X Y m X' Y'))) ∧ Below w.heap.size w w' := by
  have HA := Lib.hid hA
  have HB := Lib.hid hB
  have H2 := Lib.hid hA.1
  obtain ⟨f, hf⟩ : ∃ f, Hid (f = boolOf (tabEq n X Y m X' Y')) := ⟨_, rfl⟩
  rw [← hf.out]
  by_cases hnm : n = m
  case neg =>
    obtain rfl : f = false := by rw [hf.out]; exact boolOf_false fun h => hnm h.1
    have t1 : (n == m) = false := by simpa using hnm
    have t2 : (n != m) = true := by simpa using hnm
    have t3 : ((n : Int) == (m : Int)) = false := by rw [beq_eq_false_iff_ne]; omega
    have t4 : ((n : Int) != (m : Int)) = true := by simp; omega
    clear hA hB hnm hf
    go_enter Tryz.func20, Tryz.ntmps20
    go_wp2_with fail
    go_ret
    exact ⟨rfl, Below.refl _ _⟩
  case pos =>
  subst hnm
  clear hA hB
  go_enter Tryz.func20, Tryz.ntmps20
  go_wp2_with fail
  go_loopw [13] (fun u wr => ∃ i : Nat, Hid (i ≤ n) ∧ u = .int .i64 i ∧ Hid (∀ j, j < i → X j = X' j ∧ Y j = Y' j) ∧ Hid (Below w.heap.size w wr)) (fun u _ => n - (RowKit.intOf u).toNat)
  case atStart => exact ⟨0, Nat.zero_le _, rfl, fun j hj => absurd hj (Nat.not_lt_zero _), Below.refl _ _⟩
  case round =>
    obtain ⟨i, Hi, rfl, HG, HW⟩ := hrel
    by_cases hlt : i < n
    · have T0 : decide ((i : Int) < (n : Int)) = true := by simp <;> omega
      have T0' : decide (i < n) = true := decide_eq_true hlt
      obtain ⟨i', hi'⟩ : ∃ z, z = i + 1 := ⟨_, rfl⟩
      have x0 : IntKind.i64.wrap ((i : Int) + 1) = (i' : Int) := by have := H2.out; rw [IntKind.wrap_i64]; omega
      have HI' : Hid (i' ≤ n) := by show i' ≤ n; omega
      have HMS : Hid (n - (RowKit.intOf (Value.int .i64 (i' : Int))).toNat < n - (RowKit.intOf (Value.int .i64 (i : Int))).toNat) := by show _ < _; simp [RowKit.intOf]; omega
      have k0 : (0 : Int) ≤ (i : Int) := by omega
      have k1 : (i : Int) < (n : Int) := by omega
      obtain ⟨b1, o1, rfl, hb1, p0, p1⟩ := (HA.out.below (Nat.le_refl _) HW.out).at hlt
      obtain ⟨b2, o2, rfl, hb2, q0, q1⟩ := (HB.out.below (Nat.le_refl _) HW.out).at hlt
      have HLT := Lib.hid hlt
      have HST : Hid (X i = X' i ∧ Y i = Y' i → ∀ j, j < i' → X j = X' j ∧ Y j = Y' j) := fun h j hj => by
        rcases Nat.lt_or_ge j i with g | g
        · exact HG.out j g
        · have : j = i := by omega
          rw [this]; exact h
      have HNO : Hid (¬ (X i = X' i ∧ Y i = Y' i) → f = false) := fun h => by
        rw [hf.out]; exact boolOf_false fun g => h (g.2 i HLT.out)
      generalize X i = x at p0 HST HNO
      generalize Y i = y at p1 HST HNO
      generalize X' i = x' at q0 HST HNO
      generalize Y' i = y' at q1 HST HNO
      clear hi' hlt
      by_cases hx : x = x'
      · subst hx
        by_cases hy : y = y'
        · subst hy
          go_wp2_with fail
          go_quiet (fail)
          go_wp2_with fail
          go_roundw
          case rel => exact ⟨i', HI', rfl, HST.out (by simp), below_drewN HW.out _⟩
          case measure => exact HMS.out
        · have t1 : (y == y') = false := by simpa using hy
          have t2 : (y != y') = true := by simpa using hy
          obtain rfl : f = false := HNO.out (by simpa using hy)
          clear hy
          go_wp2_with fail
          go_quiet (fail)
          go_wp2_with fail
          go_ret
          exact ⟨rfl, below_drewN HW.out _⟩
      · have t1 : (x == x') = false := by simpa using hx
        have t2 : (x != x') = true := by simpa using hx
        obtain rfl : f = false := HNO.out fun h => hx h.1
        clear hx
        go_wp2_with fail
        go_quiet (fail)
        go_wp2_with fail
        go_ret
        exact ⟨rfl, below_drewN HW.out _⟩
    · have hin : i = n := by have := Hi.out; omega
      have T0 : decide ((i : Int) < (n : Int)) = false := by simp <;> omega
      have T0' : decide (i < n) = false := decide_eq_false hlt
      obtain rfl : f = true := by rw [hf.out]; exact boolOf_true ⟨rfl, by rw [← hin]; exact HG.out⟩
      clear hlt hin
      go_wp2_with fail
      go_ret
      exact ⟨rfl, HW.out⟩
end Go.Proofs.YtghefgifhebniaaGreatDoor

namespace Go.Proofs.YtghefgifhebniaaGreatDoor
open Go.RowKit Go.Sort
set_option linter.unusedVariables false
set_option linter.unusedSimpArgs false

/-- What is known of the network of the example. -/
structure ExNet (D : Nds) (K : Lks) : Prop where
  sz : NetSz D 2 K 1
  ok : netP D 2 K 1
  n0 : D.Nm 0 = ⟨#[97]⟩
  n1 : D.Nm 1 = ⟨#[111]⟩
  x0 : eX D 2 K 0 = 0
  y0 : eY D 2 K 0 = 1
theorem ex_net {NM : List Ndm} {LM : List Lkm} (h1 : ndx NM = [exA, exO]) (h2 : lkx LM = [exP]) : NM.length = 2 ∧ LM.length = 1 ∧ ExNet (ndsM NM) (lksM LM) := by
  have l1 : NM.length = 2 := by have := congrArg List.length h1; unfold ndx at this; rwa [List.length_map] at this
  have l2 : LM.length = 1 := by have := congrArg List.length h2; unfold lkx at this; rwa [List.length_map] at this
  have a0 : (ndsM NM).Nm 0 = ⟨#[97]⟩ := by unfold ndsM ndsR; rw [h1]; rfl
  have a1 : (ndsM NM).Nm 1 = ⟨#[111]⟩ := by unfold ndsM ndsR; rw [h1]; rfl
  have b0 : (lksM LM).Fr 0 = ⟨#[97]⟩ := by unfold lksM lksR; rw [h2]; rfl
  have b1 : (lksM LM).To 0 = ⟨#[111]⟩ := by unfold lksM lksR; rw [h2]; rfl
  have b2 : (lksM LM).Nm 0 = ⟨#[112]⟩ := by unfold lksM lksR; rw [h2]; rfl
  have b3 : (lksM LM).Sc 0 = ⟨#[99, 51, 48, 48]⟩ := by unfold lksM lksR; rw [h2]; rfl
  have b4 : (lksM LM).CN 0 = 0 := by unfold lksM lksR; rw [h2]; rfl
  have hok : netP (ndsM NM) 2 (lksM LM) 1 := by
    have := (netV_iff (ndx NM) (lkx LM) (fun k => (NM.getD k ⟨zNd, none, 0⟩).A) (fun k => (LM.getD k ⟨zLk, none, 0⟩).A) (fun k => (NM.getD k ⟨zNd, none, 0⟩).c) (fun k => (LM.getD k ⟨zLk, none, 0⟩).c)).2 (by rw [h1, h2]; exact netV_ex)
    rw [h1, h2] at this
    unfold ndsM lksM
    rw [h1, h2]
    exact this
  have hmx : (1 : Nat) ≤ maxLen ∧ (4 : Nat) ≤ maxLen := by have : maxLen = 9223372036854775807 := rfl; omega
  have one : ∀ i, i < 1 → i = 0 := fun i hi => by omega
  refine ⟨l1, l2, ⟨by decide, by decide, fun i hi => ?_, fun i hi => ?_, fun i hi => ?_, fun i hi => ?_, fun i hi => ?_, fun i hi => ?_⟩, hok, a0, a1, ?_, ?_⟩
  · rcases (show i = 0 ∨ i = 1 by omega) with rfl | rfl
    · rw [a0]; exact hmx.1
    · rw [a1]; exact hmx.1
  · rw [one i hi, b2]; exact hmx.1
  · rw [one i hi, b0]; exact hmx.1
  · rw [one i hi, b1]; exact hmx.1
  · rw [one i hi, b3]; exact hmx.2
  · rw [one i hi, b4]; omega
  · unfold eX; rw [b0]; exact fnd_a _ a0
  · unfold eY; rw [b1]; exact fnd_o _ a0 a1
theorem own_ints {w : World} {B : Nat} {u : Value} {L : List Int} (h : w.ownsRow B 3 1 u L.length (ic L)) (hL : L ≠ []) : ∃ g c, u = .slice (some ⟨g, 0, none⟩) L.length c ∧ g < w.heap.size ∧ ∀ j, j < L.length → w.cell? ⟨g, 0 + j, none⟩ = some (.int .i64 (L.getD j 0)) := by
  rcases h.2 with ⟨hv, h0⟩ | ⟨g, cap, cur, hv, _⟩
  · exact absurd (List.eq_nil_of_length_eq_zero h0) hL
  · subst hv
    refine ⟨g, cap, rfl, (h.lt g rfl).2, fun j hj => ?_⟩
    have := h.cellAt j (by omega)
    rw [Nat.zero_add]
    refine this.trans ?_
    unfold ic
    simp [List.getD, hj]
theorem own_strs {w : World} {B : Nat} {u : Value} {L : List ByteArray} (h : w.ownsRow B 9 1 u L.length (sc L)) (hL : L ≠ []) : ∃ g c, u = .slice (some ⟨g, 0, none⟩) L.length c ∧ g < w.heap.size ∧ ∀ j, j < L.length → w.cell? ⟨g, 0 + j, none⟩ = some (.string (L.getD j ByteArray.empty)) := by
  rcases h.2 with ⟨hv, h0⟩ | ⟨g, cap, cur, hv, _⟩
  · exact absurd (List.eq_nil_of_length_eq_zero h0) hL
  · subst hv
    have hl : (sc L).length = L.length := by unfold sc; simp
    refine ⟨g, cap, rfl, (h.lt g rfl).2, fun j hj => ?_⟩
    have := h.cellAt j (by omega)
    rw [Nat.zero_add]
    refine this.trans ?_
    unfold sc
    simp [List.getD, hj]
/-- slices.Equal at edges of which one is known, as awake asks. -/
theorem eq_edge {A : Option Addr} {c : Nat} {X Y : Nat → Int} {w : World} (h : TabIn w A 1 X Y) (hx : X 0 = 0) (hy : Y 0 = 1) : Calls Tryz.prog 20 #[.slice A 1 c, .slice (some ⟨w.heap.size, 0, none⟩) 1 1] (w.alloc (Obj.cells #[.int .i64 0, .int .i64 1] 38)) fun e w' => e = .returned (.bool true) ∧ Below w.heap.size w w' := by
  have hal : Below w.heap.size w (w.alloc (Obj.cells #[.int .i64 0, .int .i64 1] 38)) := (Below.refl _ w).alloc (Nat.le_refl _) _
  have hb := Blk.new w 38 #[.int .i64 0, .int .i64 1]
  have h2 : TabIn (w.alloc (Obj.cells #[.int .i64 0, .int .i64 1] 38)) (some ⟨w.heap.size, 0, none⟩) 1 (fun _ => 0) (fun _ => 1) := ⟨by omega, .inr ⟨_, _, rfl, hb.lt, fun k hk => by
    obtain rfl : k = 0 := by omega
    exact ⟨hb.cell 0, hb.cell 1⟩⟩⟩
  have hq : tabEq 1 X Y 1 (fun _ => 0) (fun _ => 1) := ⟨rfl, fun k hk => by
    obtain rfl : k = 0 := by omega
    exact ⟨hx, hy⟩⟩
  refine (eequal A _ 1 1 c 1 X Y _ _ _ (h.below (Nat.le_refl _) hal) h2).mono ?_
  rintro e w' ⟨he, hb'⟩
  exact ⟨by rw [he, boolOf_true hq], below_step hal hb'⟩
theorem eq_ints {B : Nat} {u : Value} {w : World} (h : w.ownsRow B 3 1 u 2 (ic [0, 1])) : Calls Tryz.prog 22 #[u, .slice (some ⟨w.heap.size, 0, none⟩) 2 2] (w.alloc (Obj.cells #[.int .i64 0, .int .i64 1] 3)) fun e w' => e = .returned (.bool true) ∧ Below w.heap.size w w' := by
  obtain ⟨g, c, rfl, hg, hc⟩ := own_ints (L := [0, 1]) h (by simp)
  have hal : Below w.heap.size w (w.alloc (Obj.cells #[.int .i64 0, .int .i64 1] 3)) := (Below.refl _ w).alloc (Nat.le_refl _) _
  have hb := Blk.new w 3 #[.int .i64 0, .int .i64 1]
  refine (Tryz.slices_Equal_int g 0 2 c w.heap.size 0 2 2 [0, 1] [0, 1] _ (by simp) (by simp) (by omega) (by omega) (fun j hj => (hal.cell (p := ⟨g, 0 + j, none⟩) hg).trans (hc j hj)) (fun j hj => ?_)).mono ?_
  · have hj2 : j < 2 := hj
    match j, hj2 with
    | 0, _ => exact hb.cell 0
    | 1, _ => exact hb.cell 1
  · rintro e w' ⟨he, q, rfl⟩
    exact ⟨by rw [he]; rfl, below_drewN hal _⟩
theorem eq_strs {B : Nat} {u : Value} {s : ByteArray} {w : World} (h : w.ownsRow B 9 1 u 1 (sc [s])) : Calls Tryz.prog 26 #[u, .slice (some ⟨w.heap.size, 0, none⟩) 1 1] (w.alloc (Obj.cells #[.string s] 9)) fun e w' => e = .returned (.bool true) ∧ Below w.heap.size w w' := by
  obtain ⟨g, c, rfl, hg, hc⟩ := own_strs (L := [s]) h (by simp)
  have hal : Below w.heap.size w (w.alloc (Obj.cells #[.string s] 9)) := (Below.refl _ w).alloc (Nat.le_refl _) _
  have hb := Blk.new w 9 #[.string s]
  refine (Tryz.slices_Equal_string g 0 1 c w.heap.size 0 1 1 [s] [s] _ (by simp) (by simp) (by omega) (by omega) (fun j hj => (hal.cell (p := ⟨g, 0 + j, none⟩) hg).trans (hc j hj)) (fun j hj => ?_)).mono ?_
  · have hj2 : j < 1 := hj
    obtain rfl : j = 0 := by omega
    exact hb.cell 0
  · rintro e w' ⟨he, q, rfl⟩
    exact ⟨by rw [he]; simp, below_drewN hal _⟩
/-- What the five functions answer at the network of the example. -/
theorem ex_valid {NA LA : Option Addr} {cn cl : Nat} {D : Nds} {K : Lks} {w : World} (hX : ExNet D K) (hD : NdIn w NA 2 D) (hK : LkIn w LA 1 K) : Calls Tryz.prog 36 #[.agg #[.slice NA 2 cn, .slice LA 1 cl]] w fun e w' => e = .returned (.bool true) ∧ Below w.heap.size w w' := by
  refine (nvalid NA LA 2 cn 1 cl D K hX.sz w hD hK).mono ?_
  rintro e w' ⟨he, hb⟩
  exact ⟨by rw [he, boolOf_true hX.ok], hb⟩
theorem ex_edges {NA LA : Option Addr} {cn cl : Nat} {D : Nds} {K : Lks} {w : World} (hX : ExNet D K) (hD : NdIn w NA 2 D) (hK : LkIn w LA 1 K) : Calls Tryz.prog 16 #[.agg #[.slice NA 2 cn, .slice LA 1 cl]] w fun e w' => ∃ A c, e = .returned (.tuple #[.slice A 1 c, .int .i64 0]) ∧ TabIn w' A 1 (eX D 2 K) (eY D 2 K) ∧ Below w.heap.size w w' := by
  refine (tnedges NA LA 2 cn 1 cl D K hX.sz w hD hK).mono ?_
  rintro e w' (⟨hn, _⟩ | ⟨_, u, he, hm⟩)
  · exact absurd hX.ok hn
  · obtain ⟨A, c, rfl, ht⟩ := hm.tab (by decide)
    exact ⟨A, c, he, ht, hm.2⟩
theorem ex_order {NA LA : Option Addr} {cn cl : Nat} {D : Nds} {K : Lks} {w : World} (hX : ExNet D K) (hD : NdIn w NA 2 D) (hK : LkIn w LA 1 K) : Calls Tryz.prog 17 #[.agg #[.slice NA 2 cn, .slice LA 1 cl]] w fun e w' => ∃ u, e = .returned (.tuple #[u, .int .i64 0]) ∧ w'.ownsRow w.heap.size 3 1 u 2 (ic [0, 1]) ∧ Below w.heap.size w w' := by
  refine (tnorder NA LA 2 cn 1 cl D K hX.sz w hD hK).mono ?_
  rintro e w' (⟨hn, _⟩ | ⟨_, u, he, ho, hb⟩)
  · exact absurd hX.ok hn
  · obtain ⟨h1, h2⟩ := ordR_one hX.x0 hX.y0
    rw [h1] at ho
    rw [h2] at he
    exact ⟨u, he, ho, hb⟩
theorem ex_below {NA LA : Option Addr} {cn cl : Nat} {D : Nds} {K : Lks} {w : World} (hX : ExNet D K) (hD : NdIn w NA 2 D) (hK : LkIn w LA 1 K) : Calls Tryz.prog 24 #[.agg #[.slice NA 2 cn, .slice LA 1 cl], .string ⟨#[97]⟩] w fun e w' => ∃ u, e = .returned (.tuple #[u, .int .i64 0]) ∧ w'.ownsRow w.heap.size 9 1 u 1 (sc [⟨#[111]⟩]) ∧ Below w.heap.size w w' := by
  refine (tnbelow NA LA 2 cn 1 cl D K _ hX.sz w hD hK).mono ?_
  have hf := fnd_a D hX.n0
  rintro e w' (⟨hn, _⟩ | ⟨_, h⟩)
  · exact absurd hX.ok hn
  · rw [hf] at h
    rcases h with ⟨h0, _⟩ | ⟨_, u, he, hm⟩
    · omega
    · have := nm_below (D := D) hX.n1 hX.x0 hX.y0
      rw [this] at hm
      exact ⟨u, he, hm.1, hm.2⟩
theorem ex_above {NA LA : Option Addr} {cn cl : Nat} {D : Nds} {K : Lks} {w : World} (hX : ExNet D K) (hD : NdIn w NA 2 D) (hK : LkIn w LA 1 K) : Calls Tryz.prog 23 #[.agg #[.slice NA 2 cn, .slice LA 1 cl], .string ⟨#[111]⟩] w fun e w' => ∃ u, e = .returned (.tuple #[u, .int .i64 0]) ∧ w'.ownsRow w.heap.size 9 1 u 1 (sc [⟨#[97]⟩]) ∧ Below w.heap.size w w' := by
  refine (tnabove NA LA 2 cn 1 cl D K _ hX.sz w hD hK).mono ?_
  have hf := fnd_o D hX.n0 hX.n1
  rintro e w' (⟨hn, _⟩ | ⟨_, h⟩)
  · exact absurd hX.ok hn
  · rw [hf] at h
    rcases h with ⟨h0, _⟩ | ⟨_, u, he, hm⟩
    · omega
    · have := nm_above (D := D) hX.n0 hX.y0 hX.x0
      rw [this] at hm
      exact ⟨u, he, hm.1, hm.2⟩
set_option maxRecDepth 100000 in
set_option maxHeartbeats 8000000 in
theorem awake26 (w : World) (hE : Env w) : Calls Tryz.prog 14 #[] w fun e w' => e = .returned (.bool true) ∧ Below w.heap.size w w' := by
  have SP := Lib.hid (tnparse exS (by rw [exS_size]; decide) (fun N L h => runs_exs h) w hE)
  clear hE
  go_enter Tryz.func14, Tryz.ntmps14
  go_upto_region 2 with (first
    | (go_at_call 45
       refine SP.out.mono ?_
       rintro e w1 ⟨NM, LM, k, er, NA, LA, cn, cl, hnt, rfl, hnd, hlk, hb1⟩
       obtain ⟨q1, q2, rfl, rfl⟩ := ntis_ex hnt
       obtain ⟨l1, l2, hex⟩ := ex_net q1 q2
       rw [l1] at hnd
       rw [l2] at hlk
       rw [l1, l2, show posN 0 = .agg #[.int .i64 0, .int .i64 0] from rfl]
       clear hnt q1 q2 l1 l2
       generalize ndsM NM = D at hnd hex
       generalize lksM LM = K at hlk hex
       have HX := Lib.hid hex
       have HND := Lib.hid hnd
       have HLK := Lib.hid hlk
       have HB1 := Lib.hid hb1
       clear hex hnd hlk hb1))
  clear SP
  have hal : Below w1.heap.size w1 ((w1.alloc (Obj.cells #[.slice NA 2 cn, .slice LA 1 cl] 25)).alloc (Obj.cells #[.int .i64 0, .int .i64 0] 73)) := ((Below.refl _ w1).alloc (Nat.le_refl _) _).alloc (by simp) _
  have HBX : Hid (Blk ((w1.alloc (Obj.cells #[.slice NA 2 cn, .slice LA 1 cl] 25)).alloc (Obj.cells #[.int .i64 0, .int .i64 0] 73)) w1.heap.size 25 #[.slice NA 2 cn, .slice LA 1 cl]) := (Blk.new _ _ _).alloc _
  have HAL := Lib.hid hal
  clear hal
  generalize ((w1.alloc (Obj.cells #[.slice NA 2 cn, .slice LA 1 cl] 25)).alloc (Obj.cells #[.int .i64 0, .int .i64 0] 73)) = w3 at HBX HAL ⊢
  obtain ⟨y0, y1⟩ := blk2 HBX.out
  go_wp2_with (first
    | (go_at_call 36
       with_reducible refine (ex_valid HX.out (HND.out.below (Nat.le_refl _) HAL.out) (HLK.out.below (Nat.le_refl _) HAL.out)).mono ?_
       rintro e w4 ⟨rfl, hb⟩
       have HB4 := Lib.hid (below_step HAL.out hb)
       have HX4 := Lib.hid (HBX.out.call hb)
       obtain ⟨y0, y1⟩ := blk2 HX4.out
       clear hb)
    | (go_at_call 16
       with_reducible refine (ex_edges HX.out (HND.out.below (Nat.le_refl _) HB4.out) (HLK.out.below (Nat.le_refl _) HB4.out)).mono ?_
       rintro e w5 ⟨A5, c5, rfl, ht5, hb⟩
       have HT5 := Lib.hid ht5
       have HB5 := Lib.hid (below_step HB4.out hb)
       have HX5 := Lib.hid (HX4.out.call hb)
       obtain ⟨y0, y1⟩ := blk2 HX5.out
       clear hb ht5)
    | (go_at_call 17
       with_reducible refine (ex_order HX.out (HND.out.below (Nat.le_refl _) HB5.out) (HLK.out.below (Nat.le_refl _) HB5.out)).mono ?_
       rintro e w6 ⟨u6', rfl, ho6, hb⟩
       have HT6 := Lib.hid (HT5.out.below (Nat.le_refl _) hb)
       have HO6 := Lib.hid ho6
       have HB6 := Lib.hid (below_step HB5.out hb)
       have HX6 := Lib.hid (HX5.out.call hb)
       obtain ⟨y0, y1⟩ := blk2 HX6.out
       clear hb ho6)
    | (go_at_call 24
       with_reducible refine (ex_below HX.out (HND.out.below (Nat.le_refl _) HB6.out) (HLK.out.below (Nat.le_refl _) HB6.out)).mono ?_
       rintro e w7 ⟨u7', rfl, ho7, hb⟩
       have HT7 := Lib.hid (HT6.out.below (Nat.le_refl _) hb)
       have HO7 := Lib.hid (own_below HO6.out hb)
       have HP7 := Lib.hid ho7
       have HB7 := Lib.hid (below_step HB6.out hb)
       have HX7 := Lib.hid (HX6.out.call hb)
       obtain ⟨y0, y1⟩ := blk2 HX7.out
       clear hb ho7)
    | (go_at_call 23
       with_reducible refine (ex_above HX.out (HND.out.below (Nat.le_refl _) HB7.out) (HLK.out.below (Nat.le_refl _) HB7.out)).mono ?_
       rintro e w8 ⟨u8', rfl, ho8, hb⟩
       have HT8 := Lib.hid (HT7.out.below (Nat.le_refl _) hb)
       have HO8 := Lib.hid (own_below HO7.out hb)
       have HP8 := Lib.hid (own_below HP7.out hb)
       have HQ8 := Lib.hid ho8
       have HB8 := Lib.hid (below_step HB7.out hb)
       clear hb ho8)
    | (go_at_call 20
       with_reducible refine (eq_edge HT8.out HX.out.x0 HX.out.y0).mono ?_
       rintro e w9 ⟨rfl, hb⟩
       have HO9 := Lib.hid (own_below HO8.out hb)
       have HP9 := Lib.hid (own_below HP8.out hb)
       have HQ9 := Lib.hid (own_below HQ8.out hb)
       have HB9 := Lib.hid (below_step HB8.out hb)
       clear hb)
    | (go_at_call 22
       with_reducible refine (eq_ints HO9.out).mono ?_
       rintro e w10 ⟨rfl, hb⟩
       have HP10 := Lib.hid (own_below HP9.out hb)
       have HQ10 := Lib.hid (own_below HQ9.out hb)
       have HB10 := Lib.hid (below_step HB9.out hb)
       clear hb)
    | (go_at_call 26
       with_reducible refine (eq_strs HP10.out).mono ?_
       rintro e w11 ⟨rfl, hb⟩
       have HQ11 := Lib.hid (own_below HQ10.out hb)
       have HB11 := Lib.hid (below_step HB10.out hb)
       clear hb HP10)
    | (go_at_call 26
       with_reducible refine (eq_strs HQ11.out).mono ?_
       rintro e w12 ⟨rfl, hb⟩
       have HB12 := Lib.hid (below_step HB11.out hb)
       clear hb))
  go_ret
  exact ⟨rfl, below_step HB1.out HB12.out⟩
end Go.Proofs.YtghefgifhebniaaGreatDoor

namespace Go.Proofs.YtghefgifhebniaaGreatDoor
open Go.RowKit Go.Sort
set_option linter.unusedVariables false
set_option linter.unusedSimpArgs false

theorem p_same (v : Int) (w : World) : Calls Tryz.prog 34 #[.int .i64 (findI true v), .int .i64 (findE true v), .int .i64 v] w fun e w' => e = .returned (.bool true) ∧ Below w.heap.size w w' := by
  by_cases h : v < 0
  · have t : decide (v < 0) = true := decide_eq_true h
    have e1 : findI true v = 0 := by unfold findI; simp [h]
    have e2 : findE true v = 9 := by unfold findE; simp [h]
    rw [e1, e2]
    clear h e1 e2
    go_enter Tryz.func34, Tryz.ntmps34
    go_wp2_with fail
    go_ret
    exact ⟨by first | rfl | (simp; done), by (repeat' (first | assumption | exact Below.refl _ _ | exact Below.size (by assumption) | (refine Below.setCell ?_ ?_ _) | (refine Below.alloc ?_ ?_ _) | (refine Below.drew ?_) | (refine below_drewN ?_ _) | (refine Below.trans ?_ (Below.mono ‹Below _ _ _› ?_)) | omega | (simp; done) | (simp; omega) | (simp at *; omega)))⟩
  · have t : decide (v < 0) = false := decide_eq_false h
    have e1 : findI true v = v := by unfold findI; simp [h]
    have e2 : findE true v = 0 := by unfold findE; simp [h]
    rw [e1, e2]
    clear h e1 e2
    go_enter Tryz.func34, Tryz.ntmps34
    go_wp2_with fail
    go_ret
    exact ⟨by first | rfl | (simp; done), by (repeat' (first | assumption | exact Below.refl _ _ | exact Below.size (by assumption) | (refine Below.setCell ?_ ?_ _) | (refine Below.alloc ?_ ?_ _) | (refine Below.drew ?_) | (refine below_drewN ?_ _) | (refine Below.trans ?_ (Below.mono ‹Below _ _ _› ?_)) | omega | (simp; done) | (simp; omega) | (simp at *; omega)))⟩
set_option maxRecDepth 100000 in
set_option maxHeartbeats 8000000 in
theorem netfinds (NA LA : Option Addr) (n nc m lc : Nat) (D : Nds) (K : Lks) (s : ByteArray) (w : World) (hD : NdIn w NA n D) (hK : LkIn w LA m K) (hE : Env w) :
    Calls Tryz.prog 6 #[.agg #[.slice NA n nc, .slice LA m lc], .string s] w fun e w' => e = .returned (.bool true) ∧ Below w.heap.size w w' := by
  have hal : Below w.heap.size w (w.alloc (Obj.cells #[.slice NA n nc, .slice LA m lc] 25)) := (Below.refl _ w).alloc (Nat.le_refl _) _
  have HAL := Lib.hid hal
  have HB0 : Hid (Blk (w.alloc (Obj.cells #[.slice NA n nc, .slice LA m lc] 25)) w.heap.size 25 #[.slice NA n nc, .slice LA m lc]) := Blk.new _ _ _
  have HE0 := Lib.hid (hE.below hal)
  have HD := Lib.hid hD
  have HK := Lib.hid hK
  clear hD hK hE hal
  obtain ⟨V, hV⟩ : ∃ V, Hid (V = boolOf (lgP D n K m)) := ⟨_, rfl⟩
  go_enter Tryz.func6, Tryz.ntmps6
  go_upto_region 3 with (first
    | (go_at_call 14
       with_reducible refine (awake26 _ HE0.out).mono ?_
       rintro e w1 ⟨rfl, hb1⟩
       have HB1 := Lib.hid (below_step HAL.out hb1)
       have HBB := Lib.hid (HB0.out.call hb1)
       clear hb1))
  obtain ⟨y0, y1⟩ := blk2 HBB.out
  have SL : Hid (Calls Tryz.prog 15 #[.agg #[.slice NA n nc, .slice LA m lc]] w1 fun e w' => e = .returned (.bool V) ∧ Below w1.heap.size w1 w') := by rw [hV.out]; exact tlarge NA LA n nc m lc D K w1 (HD.out.below (Nat.le_refl _) HB1.out) (HK.out.below (Nat.le_refl _) HB1.out)
  by_cases hl : lgP D n K m
  · obtain rfl : V = true := hV.out.trans (boolOf_true hl)
    clear hl hV
    go_wp2_with (first
      | (go_at_call 15
         with_reducible refine SL.out.mono ?_
         rintro e w2 ⟨rfl, hb2⟩
         have HB2 := Lib.hid (below_step HB1.out hb2)
         clear hb2))
    go_ret
    exact ⟨rfl, HB2.out⟩
  obtain rfl : V = false := hV.out.trans (boolOf_false hl)
  have HZ := Lib.hid (lg_sz hl)
  clear hl hV
  by_cases hs : 100 < s.size
  · have T0 : decide ((100 : Int) < (s.size : Int)) = true := decide_eq_true (by omega)
    have T0' : decide (100 < s.size) = true := decide_eq_true hs
    clear hs
    go_wp2_with (first
      | (go_at_call 15
         with_reducible refine SL.out.mono ?_
         rintro e w2 ⟨rfl, hb2⟩
         have HB2 := Lib.hid (below_step HB1.out hb2)
         clear hb2))
    go_ret
    exact ⟨rfl, HB2.out⟩
  have T0 : decide ((100 : Int) < (s.size : Int)) = false := decide_eq_false (by omega)
  have T0' : decide (100 < s.size) = false := decide_eq_false hs
  clear hs
  have SN : Hid (∀ w', Below w.heap.size w w' → Calls Tryz.prog 32 #[.agg #[.slice NA n nc, .slice LA m lc], .string s] w' fun e w'' => e = .returned (.tuple #[.int .i64 (findI (boolOf (netP D n K m)) (fnd D.Nm n s)), .int .i64 (findE (boolOf (netP D n K m)) (fnd D.Nm n s))]) ∧ Below w'.heap.size w' w'') := fun w' hb => tnnode NA LA n nc m lc D K s HZ.out w' (HD.out.below (Nat.le_refl _) hb) (HK.out.below (Nat.le_refl _) hb)
  have SK : Hid (∀ w', Below w.heap.size w w' → Calls Tryz.prog 33 #[.agg #[.slice NA n nc, .slice LA m lc], .string s] w' fun e w'' => e = .returned (.tuple #[.int .i64 (findI (boolOf (netP D n K m)) (fnd K.Nm m s)), .int .i64 (findE (boolOf (netP D n K m)) (fnd K.Nm m s))]) ∧ Below w'.heap.size w' w'') := fun w' hb => tnlink NA LA n nc m lc D K s HZ.out w' (HD.out.below (Nat.le_refl _) hb) (HK.out.below (Nat.le_refl _) hb)
  have SV : Hid (∀ w', Below w.heap.size w w' → Calls Tryz.prog 18 #[.agg #[.slice NA n nc, .slice LA m lc]] w' fun e w'' => e = .returned (.bool (boolOf (netP D n K m))) ∧ Below w'.heap.size w' w'') := fun w' hb => wvalidN NA LA n nc m lc D K HZ.out w' (HD.out.below (Nat.le_refl _) hb) (HK.out.below (Nat.le_refl _) hb)
  have SA : Hid (∀ w', Below w.heap.size w w' → Calls Tryz.prog 25 #[.agg #[.slice NA n nc, .slice LA m lc], .string s] w' fun e w'' => e = .returned (.int .i64 (fnd D.Nm n s)) ∧ Below w'.heap.size w' w'') := fun w' hb => r_node NA LA n nc m lc D s w' HZ.out.n2 (HD.out.below (Nat.le_refl _) hb)
  have SB : Hid (∀ w', Below w.heap.size w w' → Calls Tryz.prog 35 #[.agg #[.slice NA n nc, .slice LA m lc], .string s] w' fun e w'' => e = .returned (.int .i64 (fnd K.Nm m s)) ∧ Below w'.heap.size w' w'') := fun w' hb => r_link NA LA n nc m lc K s w' HZ.out.m2 (HK.out.below (Nat.le_refl _) hb)
  obtain ⟨W, hW⟩ : ∃ W, boolOf (netP D n K m) = W := ⟨_, rfl⟩
  generalize fnd D.Nm n s = v at SN SA
  generalize fnd K.Nm m s = u at SK SB
  rw [hW] at SN SK SV
  clear hW
  cases W with
  | false =>
    have e1 : ∀ v, findI false v = 0 := fun v => rfl
    have e2 : ∀ v, findE false v = 1 := fun v => rfl
    rw [e1, e2] at SN SK
    clear e1 e2
    go_wp2_with (first
      | (go_at_call 15
         with_reducible refine SL.out.mono ?_
         rintro e w2 ⟨rfl, hb2⟩
         have HB2 := Lib.hid (below_step HB1.out hb2)
         have HX2 := Lib.hid (HBB.out.call hb2)
         obtain ⟨y0, y1⟩ := blk2 HX2.out
         clear hb2)
      | (go_at_call 32
         with_reducible refine (SN.out _ HB2.out).mono ?_
         rintro e w3 ⟨rfl, hb2⟩
         have HB3 := Lib.hid (below_step HB2.out hb2)
         have HX3 := Lib.hid (HX2.out.call hb2)
         obtain ⟨y0, y1⟩ := blk2 HX3.out
         clear hb2)
      | (go_at_call 33
         with_reducible refine (SK.out _ HB3.out).mono ?_
         rintro e w4 ⟨rfl, hb2⟩
         have HB4 := Lib.hid (below_step HB3.out hb2)
         have HX4 := Lib.hid (HX3.out.call hb2)
         obtain ⟨y0, y1⟩ := blk2 HX4.out
         clear hb2)
      | (go_at_call 18
         with_reducible refine (SV.out _ HB4.out).mono ?_
         rintro e w5 ⟨rfl, hb2⟩
         have HB5 := Lib.hid (below_step HB4.out hb2)
         clear hb2))
    go_ret
    exact ⟨rfl, HB5.out⟩
  | true =>
    have SC := Lib.hid fun v w => p_same v w
    obtain ⟨i1, h1⟩ : ∃ i1, findI true v = i1 := ⟨_, rfl⟩
    obtain ⟨i2, h2⟩ : ∃ i2, findE true v = i2 := ⟨_, rfl⟩
    obtain ⟨j1, h3⟩ : ∃ j1, findI true u = j1 := ⟨_, rfl⟩
    obtain ⟨j2, h4⟩ : ∃ j2, findE true u = j2 := ⟨_, rfl⟩
    have S1 := SC.out v
    have S2 := SC.out u
    rw [h1, h2] at SN S1
    rw [h3, h4] at SK S2
    have S1' := Lib.hid S1
    have S2' := Lib.hid S2
    clear h1 h2 h3 h4 S1 S2 SC
    go_wp2_with (first
      | (go_at_call 15
         with_reducible refine SL.out.mono ?_
         rintro e w2 ⟨rfl, hb2⟩
         have HB2 := Lib.hid (below_step HB1.out hb2)
         have HX2 := Lib.hid (HBB.out.call hb2)
         obtain ⟨y0, y1⟩ := blk2 HX2.out
         clear hb2)
      | (go_at_call 32
         with_reducible refine (SN.out _ HB2.out).mono ?_
         rintro e w3 ⟨rfl, hb2⟩
         have HB3 := Lib.hid (below_step HB2.out hb2)
         have HX3 := Lib.hid (HX2.out.call hb2)
         obtain ⟨y0, y1⟩ := blk2 HX3.out
         clear hb2)
      | (go_at_call 33
         with_reducible refine (SK.out _ HB3.out).mono ?_
         rintro e w4 ⟨rfl, hb2⟩
         have HB4 := Lib.hid (below_step HB3.out hb2)
         have HX4 := Lib.hid (HX3.out.call hb2)
         obtain ⟨y0, y1⟩ := blk2 HX4.out
         clear hb2)
      | (go_at_call 18
         with_reducible refine (SV.out _ HB4.out).mono ?_
         rintro e w5 ⟨rfl, hb2⟩
         have HB5 := Lib.hid (below_step HB4.out hb2)
         have HX5 := Lib.hid (HX4.out.call hb2)
         obtain ⟨y0, y1⟩ := blk2 HX5.out
         clear hb2)
      | (go_at_call 25
         with_reducible refine (SA.out _ HB5.out).mono ?_
         rintro e w6 ⟨rfl, hb2⟩
         have HB6 := Lib.hid (below_step HB5.out hb2)
         have HX6 := Lib.hid (HX5.out.call hb2)
         clear hb2)
      | (go_at_call 35
         with_reducible refine (SB.out _ HB7.out).mono ?_
         rintro e w8 ⟨rfl, hb2⟩
         have HB8 := Lib.hid (below_step HB7.out hb2)
         clear hb2)
      | (go_at_call 34
         first
         | (with_reducible refine (S1'.out _).mono ?_
            rintro e w7 ⟨rfl, hb2⟩
            have HB7 := Lib.hid (below_step HB6.out hb2)
            have HX7 := Lib.hid (HX6.out.call hb2)
            obtain ⟨y0, y1⟩ := blk2 HX7.out
            clear hb2 S1')
         | (with_reducible refine (S2'.out _).mono ?_
            rintro e w9 ⟨rfl, hb2⟩
            have HB9 := Lib.hid (below_step HB8.out hb2)
            clear hb2)))
    go_ret
    exact ⟨rfl, HB9.out⟩
end Go.Proofs.YtghefgifhebniaaGreatDoor

namespace Go.Proofs.YtghefgifhebniaaGreatDoor
open Go.RowKit Go.Sort
set_option linter.unusedVariables false
set_option linter.unusedSimpArgs false

/-- What is asked of Node and Link at a valid network. -/
theorem findN {NA LA : Option Addr} {n nc m lc : Nat} {D : Nds} {K : Lks} {s : ByteArray} {v : Int} {w : World} (hz : NetSz D n K m) (hP : netP D n K m) (hD : NdIn w NA n D) (hK : LkIn w LA m K) (hv : fnd D.Nm n s = v) (h0 : 0 ≤ v) :
    Calls Tryz.prog 32 #[.agg #[.slice NA n nc, .slice LA m lc], .string s] w fun e w' => e = .returned (.tuple #[.int .i64 v, .int .i64 0]) ∧ Below w.heap.size w w' := by
  refine (tnnode NA LA n nc m lc D K s hz w hD hK).mono ?_
  rintro e w' ⟨he, hb⟩
  refine ⟨?_, hb⟩
  rw [he, hv, boolOf_true hP]
  unfold findI findE
  simp [show ¬ v < 0 by omega]
theorem findL {NA LA : Option Addr} {n nc m lc : Nat} {D : Nds} {K : Lks} {s : ByteArray} {v : Int} {w : World} (hz : NetSz D n K m) (hP : netP D n K m) (hD : NdIn w NA n D) (hK : LkIn w LA m K) (hv : fnd K.Nm m s = v) (h0 : 0 ≤ v) :
    Calls Tryz.prog 33 #[.agg #[.slice NA n nc, .slice LA m lc], .string s] w fun e w' => e = .returned (.tuple #[.int .i64 v, .int .i64 0]) ∧ Below w.heap.size w w' := by
  refine (tnlink NA LA n nc m lc D K s hz w hD hK).mono ?_
  rintro e w' ⟨he, hb⟩
  refine ⟨?_, hb⟩
  rw [he, hv, boolOf_true hP]
  unfold findI findE
  simp [show ¬ v < 0 by omega]
set_option maxRecDepth 100000 in
set_option maxHeartbeats 8000000 in
theorem netnames (NA LA : Option Addr) (n nc m lc : Nat) (D : Nds) (K : Lks) (w : World) (hD : NdIn w NA n D) (hK : LkIn w LA m K) (hE : Env w) :
    Calls Tryz.prog 7 #[.agg #[.slice NA n nc, .slice LA m lc]] w fun e w' => e = .returned (.bool true) ∧ Below w.heap.size w w' := by
  have hal : Below w.heap.size w (w.alloc (Obj.cells #[.slice NA n nc, .slice LA m lc] 25)) := (Below.refl _ w).alloc (Nat.le_refl _) _
  have HAL := Lib.hid hal
  have HB0 : Hid (Blk (w.alloc (Obj.cells #[.slice NA n nc, .slice LA m lc] 25)) w.heap.size 25 #[.slice NA n nc, .slice LA m lc]) := Blk.new _ _ _
  have HE0 := Lib.hid (hE.below hal)
  have HD := Lib.hid hD
  have HK := Lib.hid hK
  clear hD hK hE hal
  obtain ⟨V, hV⟩ : ∃ V, Hid (V = boolOf (lgP D n K m)) := ⟨_, rfl⟩
  go_enter Tryz.func7, Tryz.ntmps7
  go_upto_region 3 with (first
    | (go_at_call 14
       with_reducible refine (awake26 _ HE0.out).mono ?_
       rintro e w1 ⟨rfl, hb1⟩
       have HB1 := Lib.hid (below_step HAL.out hb1)
       have HBB := Lib.hid (HB0.out.call hb1)
       clear hb1))
  obtain ⟨y0, y1⟩ := blk2 HBB.out
  have SL : Hid (Calls Tryz.prog 15 #[.agg #[.slice NA n nc, .slice LA m lc]] w1 fun e w' => e = .returned (.bool V) ∧ Below w1.heap.size w1 w') := by rw [hV.out]; exact tlarge NA LA n nc m lc D K w1 (HD.out.below (Nat.le_refl _) HB1.out) (HK.out.below (Nat.le_refl _) HB1.out)
  by_cases hl : lgP D n K m
  · obtain rfl : V = true := hV.out.trans (boolOf_true hl)
    clear hl hV
    go_wp2_with (first
      | (go_at_call 15
         with_reducible refine SL.out.mono ?_
         rintro e w2 ⟨rfl, hb2⟩
         have HB2 := Lib.hid (below_step HB1.out hb2)
         clear hb2))
    go_ret
    exact ⟨rfl, HB2.out⟩
  obtain rfl : V = false := hV.out.trans (boolOf_false hl)
  have HZ := Lib.hid (lg_sz hl)
  clear hl hV
  have SV : Hid (∀ w', Below w.heap.size w w' → Calls Tryz.prog 18 #[.agg #[.slice NA n nc, .slice LA m lc]] w' fun e w'' => e = .returned (.bool (boolOf (netP D n K m))) ∧ Below w'.heap.size w' w'') := fun w' hb => wvalidN NA LA n nc m lc D K HZ.out w' (HD.out.below (Nat.le_refl _) hb) (HK.out.below (Nat.le_refl _) hb)
  by_cases hP : netP D n K m
  case neg =>
    rw [boolOf_false hP] at SV
    clear hP
    go_wp2_with (first
      | (go_at_call 15
         with_reducible refine SL.out.mono ?_
         rintro e w2 ⟨rfl, hb2⟩
         have HB2 := Lib.hid (below_step HB1.out hb2)
         have HX2 := Lib.hid (HBB.out.call hb2)
         obtain ⟨y0, y1⟩ := blk2 HX2.out
         clear hb2)
      | (go_at_call 18
         with_reducible refine (SV.out _ HB2.out).mono ?_
         rintro e w5 ⟨rfl, hb2⟩
         have HB5 := Lib.hid (below_step HB2.out hb2)
         clear hb2))
    go_ret
    exact ⟨rfl, HB5.out⟩
  rw [boolOf_true hP] at SV
  have HP := Lib.hid hP
  have HN2 : Hid (n ≤ 2000 ∧ m ≤ 2000) := ⟨HZ.out.n2, HZ.out.m2⟩
  clear hP
  go_upto_block 0 with (first
    | (go_at_call 15
       with_reducible refine SL.out.mono ?_
       rintro e w2 ⟨rfl, hb2⟩
       have HB2 := Lib.hid (below_step HB1.out hb2)
       have HX2 := Lib.hid (HBB.out.call hb2)
       obtain ⟨y0, y1⟩ := blk2 HX2.out
       clear hb2)
    | (go_at_call 18
       with_reducible refine (SV.out _ HB2.out).mono ?_
       rintro e w5 ⟨rfl, hb2⟩
       have HB5 := Lib.hid (below_step HB2.out hb2)
       have HX5 := Lib.hid (HX2.out.call hb2)
       obtain ⟨y0, y1⟩ := blk2 HX5.out
       clear hb2))
  clear SV SL HB1 HBB HB2 HX2 y0 y1 HE0 HAL HB0
  go_wp2_with fail
  go_loopw [29] (fun x wr => ∃ i : Nat, x = .int .i64 i ∧ Hid (i ≤ n) ∧ Hid (Below w.heap.size w wr) ∧ Hid (Blk wr w.heap.size 25 #[.slice NA n nc, .slice LA m lc])) (fun x _ => n - (RowKit.intOf x).toNat)
  case atStart => exact ⟨0, rfl, Nat.zero_le _, HB5, HX5⟩
  case round =>
    clear HB5 HX5
    obtain ⟨i, rfl, Hi, HW, HX⟩ := hrel
    by_cases hlt : i < n
    · have T0 : decide ((i : Int) < (n : Int)) = true := by simp <;> omega
      have T0' : decide (i < n) = true := decide_eq_true hlt
      obtain ⟨i', hi'⟩ : ∃ z, z = i + 1 := ⟨_, rfl⟩
      have x0 : IntKind.i64.wrap ((i : Int) + 1) = (i' : Int) := by have := HN2.out; rw [IntKind.wrap_i64]; omega
      have HI' : Hid (i' ≤ n ∧ i' = i + 1) := ⟨by omega, hi'⟩
      have HMS : Hid (n - (RowKit.intOf (Value.int .i64 (i' : Int))).toNat < n - (RowKit.intOf (Value.int .i64 (i : Int))).toNat) := by show _ < _; simp [RowKit.intOf]; omega
      have k0 : (0 : Int) ≤ (i : Int) := by omega
      have k1 : (i : Int) < (n : Int) := by omega
      have HFN : Hid (fnd D.Nm n (D.Nm i) = (i : Int)) := (HP.out.2.2.1 i hlt).2
      obtain ⟨bk, ok, rfl, hbk, hC, htab⟩ := (HD.out.below (Nat.le_refl _) HW.out).at hlt
      have c0 := hC 0 _ rfl
      have c1 := hC 1 _ rfl
      have c2 := hC 2 _ rfl
      have c3 := hC 3 _ rfl
      have c4 := hC 4 _ rfl
      have c5 := hC 5 _ rfl
      have c6 := hC 6 _ rfl
      have c7 := hC 7 _ rfl
      have c8 := hC 8 _ rfl
      simp only [Nat.add_zero] at c0
      clear hi' hC htab hlt hbk
      go_upto_region 8 with fail
      have hal : Below wr.heap.size wr (wr.alloc (Obj.cells (ndA D i) 55)) := (Below.refl _ wr).alloc (Nat.le_refl _) _
      have HBG : Hid (Blk (wr.alloc (Obj.cells (ndA D i) 55)) wr.heap.size 55 (ndA D i)) := Blk.new _ _ _
      have HW4 := Lib.hid (below_step HW.out hal)
      have HX4 := Lib.hid (HX.out.call hal)
      clear hal c0 c1 c2 c3 c4 c5 c6 c7 c8 HW HX
      unfold ndA at HBG HW4 HX4
      generalize wr.alloc (Obj.cells _ 55) = w4 at HBG HW4 HX4 ⊢
      generalize wr.heap.size = G at HBG ⊢
      obtain ⟨y0, y1⟩ := blk2 HX4.out
      obtain ⟨q0, _⟩ := blk9 HBG.out
      have SN := Lib.hid (findN (nc := nc) (lc := lc) HZ.out HP.out (HD.out.below (Nat.le_refl _) HW4.out) (HK.out.below (Nat.le_refl _) HW4.out) HFN.out k0)
      generalize D.Nm i = sn at SN q0
      clear HBG HFN
      go_wp2_with (first
        | (go_at_call 32
           with_reducible refine SN.out.mono ?_
           rintro e w5 ⟨rfl, hb2⟩
           have HW5 := Lib.hid (below_step HW4.out hb2)
           have HX5 := Lib.hid (HX4.out.call hb2)
           clear hb2))
      go_roundw
      case rel => exact ⟨i', rfl, HI'.out.1, HW5, HX5⟩
      case measure => exact HMS.out
    · have e : i = n := by have := Hi.out; omega
      have T0 : decide ((i : Int) < (n : Int)) = false := by simp <;> omega
      have T0' : decide (i < n) = false := decide_eq_false hlt
      clear e hlt
      obtain ⟨y0, y1⟩ := blk2 HX.out
      have SE := Lib.hid (tnedges NA LA n nc m lc D K HZ.out wr (HD.out.below (Nat.le_refl _) HW.out) (HK.out.below (Nat.le_refl _) HW.out))
      have t3 : ((m : Int) != (m : Int)) = false := by simp
      go_upto_block 2 with (first
        | (go_at_call 16
           with_reducible refine SE.out.mono ?_
           intro e w6 he
           obtain ⟨A6, c6, rfl, ht6, hb6⟩ : ∃ A c, e = .returned (.tuple #[.slice A m c, .int .i64 0]) ∧ TabIn w6 A m (eX D n K) (eY D n K) ∧ Below wr.heap.size wr w6 := by
             rcases he with ⟨hn, _⟩ | ⟨_, u, he, hm⟩
             · exact absurd HP.out hn
             · obtain ⟨A, c, rfl, ht⟩ := hm.tab HN2.out.2
               exact ⟨A, c, he, ht, hm.2⟩
           have HT6 := Lib.hid ht6
           have HW6 := Lib.hid (below_step HW.out hb6)
           have HX6 := Lib.hid (HX.out.call hb6)
           obtain ⟨y0, y1⟩ := blk2 HX6.out
           clear he ht6 hb6))
      clear HW HX SE y0 y1 T0 T0'
      go_wp2_with fail
      obtain ⟨w0, hw0⟩ : ∃ w0 : World, w0 = w6 := ⟨_, rfl⟩
      go_loopw [67] (fun x wr => ∃ j : Nat, x = .int .i64 j ∧ Hid (j ≤ m) ∧ Hid (Below w.heap.size w wr) ∧ Hid (Blk wr w.heap.size 25 #[.slice NA n nc, .slice LA m lc]) ∧ Hid (TabIn wr A6 m (eX D n K) (eY D n K))) (fun x _ => m - (RowKit.intOf x).toNat)
      case atStart => exact ⟨0, rfl, Nat.zero_le _, HW6, HX6, HT6⟩
      case round =>
        clear HW6 HX6 HT6 hw0
        obtain ⟨j, rfl, Hj, HW, HX, HT⟩ := hrel
        by_cases hlt : j < m
        · have T0 : decide ((j : Int) < (m : Int)) = true := by simp <;> omega
          have T0' : decide (j < m) = true := decide_eq_true hlt
          obtain ⟨j', hj'⟩ : ∃ z, z = j + 1 := ⟨_, rfl⟩
          have x0 : IntKind.i64.wrap ((j : Int) + 1) = (j' : Int) := by have := HN2.out; rw [IntKind.wrap_i64]; omega
          have HJ' : Hid (j' ≤ m ∧ j' = j + 1) := ⟨by omega, hj'⟩
          have HMS : Hid (m - (RowKit.intOf (Value.int .i64 (j' : Int))).toNat < m - (RowKit.intOf (Value.int .i64 (j : Int))).toNat) := by show _ < _; simp [RowKit.intOf]; omega
          have k0 : (0 : Int) ≤ (j : Int) := by omega
          have k1 : (j : Int) < (m : Int) := by omega
          have HFL : Hid (fnd K.Nm m (K.Nm j) = (j : Int)) := (HP.out.2.2.2 j hlt).2.1
          have HFX : Hid (0 ≤ eX D n K j ∧ 0 ≤ eY D n K j) := ⟨(HP.out.2.2.2 j hlt).2.2.1, (HP.out.2.2.2 j hlt).2.2.2.1⟩
          have HLT := Lib.hid hlt
          obtain ⟨bk, ok, rfl, hbk, hC, htab⟩ := (HK.out.below (Nat.le_refl _) HW.out).at hlt
          have c0 := hC 0 _ rfl
          have c1 := hC 1 _ rfl
          have c2 := hC 2 _ rfl
          have c3 := hC 3 _ rfl
          have c4 := hC 4 _ rfl
          have c5 := hC 5 _ rfl
          have c6' := hC 6 _ rfl
          have c7 := hC 7 _ rfl
          have c8 := hC 8 _ rfl
          have c9 := hC 9 _ rfl
          have c10 := hC 10 _ rfl
          simp only [Nat.add_zero] at c0
          clear hj' hC htab hlt hbk
          go_upto_region 18 with fail
          have hal : Below wr.heap.size wr (wr.alloc (Obj.cells (lkA K j) 64)) := (Below.refl _ wr).alloc (Nat.le_refl _) _
          have HBG : Hid (Blk (wr.alloc (Obj.cells (lkA K j) 64)) wr.heap.size 64 (lkA K j)) := Blk.new _ _ _
          have HW4 := Lib.hid (below_step HW.out hal)
          have HX4 := Lib.hid (HX.out.call hal)
          have HT4 := Lib.hid (HT.out.below (Nat.le_refl _) hal)
          clear hal c0 c1 c2 c3 c4 c5 c6' c7 c8 c9 c10 HW HX HT
          unfold lkA at HBG HW4 HX4 HT4
          generalize wr.alloc (Obj.cells _ 64) = w4 at HBG HW4 HX4 HT4 ⊢
          generalize wr.heap.size = G at HBG ⊢
          obtain ⟨y0, y1⟩ := blk2 HX4.out
          obtain ⟨q0, q1, q2, _⟩ := blk11 HBG.out
          have SL := Lib.hid fun w' hb => findL (nc := nc) (lc := lc) (w := w') HZ.out HP.out (HD.out.below (Nat.le_refl _) hb) (HK.out.below (Nat.le_refl _) hb) HFL.out k0
          have SF := Lib.hid fun w' hb => findN (nc := nc) (lc := lc) (w := w') HZ.out HP.out (HD.out.below (Nat.le_refl _) hb) (HK.out.below (Nat.le_refl _) hb) (show fnd D.Nm n (K.Fr j) = eX D n K j from rfl) HFX.out.1
          have ST := Lib.hid fun w' hb => findN (nc := nc) (lc := lc) (w := w') HZ.out HP.out (HD.out.below (Nat.le_refl _) hb) (HK.out.below (Nat.le_refl _) hb) (show fnd D.Nm n (K.To j) = eY D n K j from rfl) HFX.out.2
          have HTX : Hid (∀ w', TabIn w' A6 m (eX D n K) (eY D n K) → ∃ b off, A6 = some ⟨b, off, none⟩ ∧ w'.cell? ⟨b, off + j * 2, none⟩ = some (.int .i64 (eX D n K j)) ∧ w'.cell? ⟨b, off + j * 2 + 1, none⟩ = some (.int .i64 (eY D n K j))) := fun w' h => by
            obtain ⟨b, off, h1, _, h2, h3⟩ := h.at HLT.out
            exact ⟨b, off, h1, h2, h3⟩
          go_wp2_with (first
            | (go_at_call 33
               with_reducible refine (SL.out _ HW4.out).mono ?_
               rintro e w5 ⟨rfl, hb⟩
               have HW5 := Lib.hid (below_step HW4.out hb)
               have HX5 := Lib.hid (HX4.out.call hb)
               have HT5 := Lib.hid (HT4.out.below (Nat.le_refl _) hb)
               have HG5 := Lib.hid (HBG.out.call hb)
               obtain ⟨y0, y1⟩ := blk2 HX5.out
               obtain ⟨q0, q1, q2, _⟩ := blk11 HG5.out
               clear hb)
            | (go_at_call 32
               first
               | (with_reducible refine (SF.out _ HW5.out).mono ?_
                  rintro e w6' ⟨rfl, hb⟩
                  have HW6 := Lib.hid (below_step HW5.out hb)
                  have HX6 := Lib.hid (HX5.out.call hb)
                  have HT6 := Lib.hid (HT5.out.below (Nat.le_refl _) hb)
                  have HG6 := Lib.hid (HG5.out.call hb)
                  obtain ⟨y0, y1⟩ := blk2 HX6.out
                  obtain ⟨q0, q1, q2, _⟩ := blk11 HG6.out
                  clear hb)
               | (with_reducible refine (ST.out _ HW6.out).mono ?_
                  rintro e w7 ⟨rfl, hb⟩
                  have HW7 := Lib.hid (below_step HW6.out hb)
                  have HX7 := Lib.hid (HX6.out.call hb)
                  have HT7 := Lib.hid (HT6.out.below (Nat.le_refl _) hb)
                  obtain ⟨be, oe, hA6, e0, e1⟩ := HTX.out _ HT7.out
                  subst hA6
                  clear hb)))
          go_roundw
          case rel => exact ⟨j', rfl, HJ'.out.1, HW7, HX7, HT7⟩
          case measure => exact HMS.out
        · have e : j = m := by have := Hj.out; omega
          have T0 : decide ((j : Int) < (m : Int)) = false := by simp <;> omega
          have T0' : decide (j < m) = false := decide_eq_false hlt
          clear e hlt
          go_wp2_with fail
          go_ret
          exact ⟨rfl, HW.out⟩
end Go.Proofs.YtghefgifhebniaaGreatDoor

namespace Go.Proofs.YtghefgifhebniaaGreatDoor
open Go.RowKit Go.Sort
set_option linter.unusedVariables false
set_option linter.unusedSimpArgs false

/-- What the reference's Order answers. -/
def ROrdPost (n : Nat) (X Y : Nat → Int) (m : Nat) (w : World) (e : Ending) (w' : World) : Prop :=
  ∃ u f, e = .returned (.tuple #[u, .bool f]) ∧ (f = true ↔ ¬ (ordO n X Y m).length < n) ∧ w'.ownsRow w.heap.size 3 1 u (ordR n X Y m).length (ic (ordR n X Y m)) ∧ Below w.heap.size w w'
def inL (L : List Int) (v : Nat) : Bool := L.contains (v : Int)
theorem inL_app (L : List Int) (k : Nat) : inL (L ++ [(k : Int)]) = bset (inL L) k := by
  funext v
  unfold inL bset
  by_cases h : v = k
  · subst h; simp
  · have : ((v : Int) = (k : Int)) ↔ v = k := by omega
    simp [h, this]
theorem inL_iff {L : List Int} {v : Nat} : inL L v = true ↔ (v : Int) ∈ L := by unfold inL; simp
theorem inL_no {L : List Int} {v : Nat} : inL L v = false ↔ (v : Int) ∉ L := by unfold inL; simp
theorem rdy_in {X Y : Nat → Int} {m : Nat} {L : List Int} {v : Nat} (h : inL L v = true) : rdyB X Y m L v = false := by
  cases e : rdyB X Y m L v with
  | false => rfl
  | true => exact absurd (inL_iff.1 h) (rdyB_iff.1 e).1
set_option maxRecDepth 100000 in
set_option maxHeartbeats 8000000 in
theorem rorder (A : Option Addr) (n m c : Nat) (X Y : Nat → Int) (w : World) (hn : n ≤ 300) (hm : m ≤ 1000) (hE : EdOK n X Y m) (ht : TabIn w A m X Y) :
    Calls Tryz.prog 60 #[.int .i64 n, .slice A m c] w (ROrdPost n X Y m w) := by
  obtain ⟨i0, hi0, hz0, hz1, hz2⟩ := info_parts1 infoI
  have HI0 := Lib.hid hi0
  have HZ0 := Lib.hid hz0
  have HZ1 := Lib.hid hz1
  have HZ2 := Lib.hid hz2
  have HN := Lib.hid hn
  have HM := Lib.hid hm
  have HE := Lib.hid hE
  have HT := Lib.hid ht
  have hmk := mk_run 47 4 n 1 (.bool false) infoB Tryz.underlying47 rfl (by omega) (by omega)
  obtain ⟨Z, hZ⟩ : ∃ Z, ((List.range n).map fun _ => Value.bool false).toArray = Z := ⟨_, rfl⟩
  rw [hZ] at hmk
  have HZ : Hid (Z = bcs n (inL [])) := by rw [← hZ]; rfl
  clear hi0 hz0 hz1 hz2 hn hm hE ht hZ
  go_enter Tryz.func60, Tryz.ntmps60
  go_upto_block 0 with fail
  have HB0 : Hid (Blk (w.alloc (Obj.cells Z 4)) w.heap.size 4 (bcs n (inL []))) := by show Blk _ _ _ _; rw [HZ.out]; exact Blk.new _ _ _
  have HW0 : Hid (Below w.heap.size w (w.alloc (Obj.cells Z 4))) := (Below.refl _ w).alloc (Nat.le_refl _) _
  clear hmk HZ
  generalize w.alloc (Obj.cells Z 4) = w0 at HB0 HW0 ⊢
  go_wp2_with fail
  go_loopg [7] n (fun gm u wr => ∃ (N : Nat) (L : List Int), Hid (OnWay n X Y m L ∧ L.length = N ∧ n - N ≤ gm) ∧ Hid (wr.ownsRow (w.heap.size + 1) 3 1 u N (ic L)) ∧ Hid (Blk wr w.heap.size 4 (bcs n (inL L))) ∧ Hid (Below w.heap.size w wr))
  case atStart => exact ⟨0, [], ⟨OnWay.start n X Y m, rfl, by omega⟩, World.ownsRow_nil _ _ _ _, HB0, HW0⟩
  case round =>
    clear HB0 HW0
    obtain ⟨N, L, HK, HO, HB, HW⟩ := hrel
    obtain ⟨A0, cap, rfl⟩ := nr_form HO.out
    have HLE : Hid (N ≤ n) := by show _ ≤ _; have := HK.out.1.1.len; have := HK.out.2.1; omega
    by_cases hNn : N < n
    case neg =>
      have T0 : decide ((N : Int) < (n : Int)) = false := by simp <;> omega
      have T0' : decide (N < n) = false := decide_eq_false hNn
      have HNE : Hid (¬ (ordO n X Y m).length < n ∧ ordR n X Y m = L) := by
        have hle := HK.out.1.1.len
        have hl := HK.out.2.1
        have hpn : pick n X Y m L = none := by
          cases e : pick n X Y m L with
          | none => rfl
          | some v =>
            obtain ⟨h1, h2, _⟩ := pick_some e
            have := (HK.out.1.1.app h1 h2).len
            rw [List.length_append] at this
            simp at this
            omega
        have he := HK.out.1.done hpn
        refine ⟨by rw [← he]; omega, ?_⟩
        unfold ordR
        rw [← he, if_neg (by omega)]
      clear hNn
      go_wp2_with fail
      go_ret2
      refine ⟨_, _, rfl, ⟨fun _ => HNE.out.1, fun _ => rfl⟩, ?_, HW.out⟩
      rw [HNE.out.2, HK.out.2.1]
      exact own_lower HO.out (by omega)
    have T0 : decide ((N : Int) < (n : Int)) = true := by simp <;> omega
    have T0' : decide (N < n) = true := decide_eq_true hNn
    have HNN := Lib.hid hNn
    clear hNn
    go_wp2_with fail
    obtain ⟨wo, hwo⟩ : ∃ w' : World, w' = wr := ⟨_, rfl⟩
    have HWO := Lib.hid hwo
    clear hwo
    go_loopg [8, 9] n (fun gm a b wx => ∃ (v : Nat) (k : Int), b = .int .i64 v ∧ a = .int .i64 k ∧ wx = wr ∧ Hid (v ≤ n ∧ n - v ≤ gm) ∧ Hid ((k = -1 ∧ ∀ u, u < v → rdyB X Y m L u = false) ∨ (∃ q : Nat, k = (q : Int) ∧ pick n X Y m L = some q)))
    case atStart => exact ⟨0, -1, rfl, rfl, rfl, ⟨Nat.zero_le _, Nat.le_refl _⟩, .inl ⟨rfl, fun u hu => absurd hu (Nat.not_lt_zero _)⟩⟩
    case round =>
      obtain ⟨v, k, rfl, rfl, rfl, HV, HR⟩ := hrel
      by_cases hk : k = -1
      · subst hk
        have HF : Hid (∀ u, u < v → rdyB X Y m L u = false) := by
          rcases HR.out with ⟨_, h⟩ | ⟨q, h, _⟩
          · exact h
          · omega
        clear HR
        by_cases hvn : v < n
        · have T1 : decide ((v : Int) < (n : Int)) = true := by simp <;> omega
          have T1' : decide (v < n) = true := decide_eq_true hvn
          have k0 : (0 : Int) ≤ (v : Int) := by omega
          have k1 : (v : Int) < (n : Int) := by omega
          have T2 : decide ((-1 : Int) < 0) = true := rfl
          obtain ⟨v', hv'⟩ : ∃ z, z = v + 1 := ⟨_, rfl⟩
          have x0 : IntKind.i64.wrap ((v : Int) + 1) = (v' : Int) := by have := HN.out; rw [IntKind.wrap_i64]; omega
          have HV' : Hid (v' ≤ n ∧ v' = v + 1) := ⟨by omega, hv'⟩
          have HVN := Lib.hid hvn
          have c0 := HB.out.cell v
          rw [bcs_at hvn] at c0
          obtain ⟨dn, hdn⟩ : ∃ d, inL L v = d := ⟨_, rfl⟩
          rw [hdn] at c0
          have HDN := Lib.hid hdn
          clear hv' hvn hdn
          cases dn with
          | true =>
            go_wp2_with fail
            go_roundg (n - v')
            case rel => exact ⟨v', -1, rfl, rfl, rfl, ⟨HV'.out.1, Nat.le_refl _⟩, .inl ⟨by first | rfl | trivial, fun u hu => by
              rcases Nat.lt_or_ge u v with g | g
              · exact HF.out u g
              · rw [show u = v by have := HV'.out.2; omega]; exact rdy_in HDN.out⟩⟩
            case measure => have := HV.out.2; have := HV'.out; have := HVN.out; omega
          | false =>
            go_wp2_with fail
            go_loopw [10, 11] (fun a b wx => ∃ (r : Bool) (i : Nat), a = .bool r ∧ b = .int .i64 i ∧ wx = wr ∧ Hid (i ≤ m) ∧ Hid (r = true ↔ ∀ k, k < i → Y k = (v : Int) → X k ∈ L)) (fun a b _ => m - (RowKit.intOf b).toNat)
            case atStart => exact ⟨true, 0, rfl, rfl, rfl, Nat.zero_le _, ⟨fun _ k hk => absurd hk (Nat.not_lt_zero _), fun _ => rfl⟩⟩
            case round =>
              obtain ⟨r, i, rfl, rfl, rfl, Hi, Hr⟩ := hrel
              by_cases hlt : i < m
              · have T3 : decide ((i : Int) < (m : Int)) = true := by simp <;> omega
                have T3' : decide (i < m) = true := decide_eq_true hlt
                obtain ⟨i', hi'⟩ : ∃ z, z = i + 1 := ⟨_, rfl⟩
                have x1 : IntKind.i64.wrap ((i : Int) + 1) = (i' : Int) := by have := HM.out; rw [IntKind.wrap_i64]; omega
                have HI' : Hid (i' ≤ m ∧ i' = i + 1) := ⟨by omega, hi'⟩
                have HMS : Hid (m - (RowKit.intOf (Value.int .i64 (i' : Int))).toNat < m - (RowKit.intOf (Value.int .i64 (i : Int))).toNat) := by show _ < _; simp [RowKit.intOf]; omega
                have k2 : (0 : Int) ≤ (i : Int) := by omega
                have k3 : (i : Int) < (m : Int) := by omega
                obtain ⟨b, off, hA, hb, c1, c2⟩ := (HT.out.below (Nat.le_refl _) HW.out).at hlt
                subst hA
                have hx := HE.out.x i hlt
                obtain ⟨x, hxx⟩ : ∃ x : Nat, X i = (x : Int) := ⟨(X i).toNat, by omega⟩
                obtain ⟨y, hyy⟩ : ∃ y : Int, Y i = y := ⟨_, rfl⟩
                rw [hxx] at c1
                rw [hyy] at c2
                have hxn : x < n := by omega
                have HXX : Hid (X i = (x : Int) ∧ Y i = y) := ⟨hxx, hyy⟩
                have k4 : (0 : Int) ≤ (x : Int) := by omega
                have k5 : (x : Int) < (n : Int) := by omega
                have c3 := HB.out.cell x
                rw [bcs_at hxn] at c3
                obtain ⟨dx, hdx⟩ : ∃ d, inL L x = d := ⟨_, rfl⟩
                rw [hdx] at c3
                have HDX := Lib.hid hdx
                have HST : Hid (∀ r' : Bool, ((r' = true) ↔ (r = true ∧ (y = (v : Int) → inL L x = true))) → (r' = true ↔ ∀ k, k < i' → Y k = (v : Int) → X k ∈ L)) := fun r' hr => by
                  rw [hr, Hr.out]
                  constructor
                  · rintro ⟨h1, h2⟩ k hk hy
                    rcases Nat.lt_or_ge k i with g | g
                    · exact h1 k g hy
                    · have e : k = i := by have := HI'.out.2; omega
                      subst e
                      rw [HXX.out.1]
                      exact inL_iff.1 (h2 (by rw [← HXX.out.2]; exact hy))
                  · intro h
                    refine ⟨fun k hk hy => h k (by have := HI'.out.2; omega) hy, fun hy => inL_iff.2 ?_⟩
                    rw [← HXX.out.1]
                    exact h i (by have := HI'.out.2; omega) (by rw [HXX.out.2]; exact hy)
                clear hi' hxx hyy hx hxn hdx hlt hb
                by_cases hyv : y = (v : Int)
                · subst hyv
                  cases dx with
                  | true =>
                    go_wp2_with fail
                    go_roundw
                    case rel => exact ⟨r, i', rfl, rfl, (by first | rfl | trivial), HI'.out.1, HST.out r ⟨fun h => ⟨h, fun _ => HDX.out⟩, fun h => h.1⟩⟩
                    case measure => exact HMS.out
                  | false =>
                    go_wp2_with fail
                    go_roundw
                    case rel => exact ⟨false, i', rfl, rfl, (by first | rfl | trivial), HI'.out.1, HST.out false ⟨fun h => (by cases h), fun h => absurd (h.2 rfl) (by rw [HDX.out]; simp)⟩⟩
                    case measure => exact HMS.out
                · have T4 : (y == (v : Int)) = false := by simpa using hyv
                  have T4' : decide (y = (v : Int)) = false := decide_eq_false hyv
                  have HYV := Lib.hid hyv
                  clear hyv
                  go_wp2_with fail
                  go_roundw
                  case rel => exact ⟨r, i', rfl, rfl, (by first | rfl | trivial), HI'.out.1, HST.out r ⟨fun h => ⟨h, fun e => absurd e HYV.out⟩, fun h => h.1⟩⟩
                  case measure => exact HMS.out
              · have e : i = m := by have := Hi.out; omega
                have T3 : decide ((i : Int) < (m : Int)) = false := by simp <;> omega
                have T3' : decide (i < m) = false := decide_eq_false hlt
                subst e
                have HRD : Hid (rdyB X Y i L v = r) := by
                  show _ = _
                  cases r with
                  | true => exact rdyB_iff.2 ⟨inL_no.1 HDN.out, Hr.out.1 rfl⟩
                  | false =>
                    cases e : rdyB X Y i L v with
                    | false => rfl
                    | true => have := Hr.out.2 (rdyB_iff.1 e).2; cases this
                clear hlt
                cases r with
                | true =>
                  go_wp2_with fail
                  go_roundg (n - v')
                  case rel => exact ⟨v', v, rfl, rfl, rfl, ⟨HV'.out.1, Nat.le_refl _⟩, .inr ⟨v, rfl, pick_eq HVN.out HRD.out HF.out⟩⟩
                  case measure => have := HV.out.2; have := HV'.out; have := HVN.out; omega
                | false =>
                  go_wp2_with fail
                  go_roundg (n - v')
                  case rel => exact ⟨v', -1, rfl, rfl, rfl, ⟨HV'.out.1, Nat.le_refl _⟩, .inl ⟨by first | rfl | trivial, fun u hu => by
                    rcases Nat.lt_or_ge u v with g | g
                    · exact HF.out u g
                    · rw [show u = v by have := HV'.out.2; omega]; exact HRD.out⟩⟩
                  case measure => have := HV.out.2; have := HV'.out; have := HVN.out; omega
        · have T1 : decide ((v : Int) < (n : Int)) = false := by simp <;> omega
          have T1' : decide (v < n) = false := decide_eq_false hvn
          have T2 : decide ((-1 : Int) < 0) = true := rfl
          have HNE : Hid ((ordO n X Y m).length < n ∧ ordR n X Y m = []) := by
            have hpn : pick n X Y m L = none := by
              cases e : pick n X Y m L with
              | none => rfl
              | some q =>
                obtain ⟨h1, h2, _⟩ := pick_some e
                rw [HF.out q (by omega)] at h2
                cases h2
            have he := HK.out.1.done hpn
            have hl := HK.out.2.1
            have h1 : (ordO n X Y m).length < n := by rw [← he, hl]; exact HNN.out
            exact ⟨h1, by unfold ordR; rw [if_pos h1]⟩
          clear hvn
          go_wp2_with fail
          go_ret2
          refine ⟨_, _, rfl, ⟨fun h => (by cases h), fun h => absurd HNE.out.1 h⟩, ?_, HW.out⟩
          rw [HNE.out.2]
          exact World.ownsRow_nil _ _ _ _
      · have HQ : Hid (∃ q : Nat, k = (q : Int) ∧ pick n X Y m L = some q) := by
          rcases HR.out with ⟨h, _⟩ | h
          · exact absurd h hk
          · exact h
        obtain ⟨q, hq, hpk⟩ := HQ.out
        subst hq
        have hqn : q < n := (pick_some hpk).1
        have HPK := Lib.hid hpk
        have T2 : decide ((q : Int) < 0) = false := decide_eq_false (by omega)
        have k0 : (0 : Int) ≤ (q : Int) := by omega
        have k1 : (q : Int) < (n : Int) := by omega
        have c0 := HB.out.cell q
        rw [bcs_at hqn] at c0
        have f0 := HB.out.frozen q
        have HB5 : Hid (Blk (wr.setCell ⟨w.heap.size, q, none⟩ (.bool true)) w.heap.size 4 (bcs n (inL (L ++ [(q : Int)])))) := by
          have := HB.out.set_ q (.bool true)
          rw [bcs_set] at this
          rwa [inL_app]
        have HW5 : Hid (Below w.heap.size w (wr.setCell ⟨w.heap.size, q, none⟩ (.bool true))) := HW.out.setCell (p := ⟨w.heap.size, q, none⟩) (Nat.le_refl _) _
        have HO5 : Hid ((wr.setCell ⟨w.heap.size, q, none⟩ (.bool true)).ownsRow (w.heap.size + 1) 3 1 (.slice A0 N cap) N (ic L)) := HO.out.kept (gr_set wr w.heap.size q _) (.inr (own_blk_ne HO.out HB.out (by decide)))
        have HB1 : Hid (w.heap.size + 1 ≤ (wr.setCell ⟨w.heap.size, q, none⟩ (.bool true)).heap.size) := HB5.out.lt
        have HN2 : Hid (N ≤ 2000) := by show _ ≤ _; have := HLE.out; have := HN.out; omega
        have hvc : (decide ((v : Int) < (n : Int)) = true ∧ decide (v < n) = true) ∨ (decide ((v : Int) < (n : Int)) = false ∧ decide (v < n) = false) := by
          by_cases h : v < n
          · exact .inl ⟨decide_eq_true (by omega), decide_eq_true h⟩
          · exact .inr ⟨decide_eq_false (by omega), decide_eq_false h⟩
        clear hk HR HQ hpk hqn
        rcases hvc with ⟨T1, T1'⟩ | ⟨T1, T1'⟩
        · go_upto_region 20 with fail
          generalize wr.setCell ⟨w.heap.size, q, none⟩ (.bool true) = w5 at HB5 HW5 HO5 HB1 ⊢
          go_wp2_with (first
            | (at_builtin; refine wpList_append_own_at _ ?q1_1 (.tmp 62) (.tmp 64) 32 ?q1_2 (w.heap.size + 1) 3 i0 (.int .i64 0) 1 8 Tryz.underlying32 HI0.out HZ0.out HZ1.out HZ2.out ?q1_3 ?q1_4 (.slice A0 N cap) N (ic L) ?q1_5 (HO5.out.alloc _) ⟨w5.heap.size, 0, none⟩ 1 1 [.int .i64 (q : Int)] ?q1_7 (rfl) (World.news_of_block (cs := #[.int .i64 (q : Int)]) (t := 3) (fr := (0, 0)) (heap_alloc_new _ _)) (by simp [Value.oneCell']) (h63_n HN2.out) (hby_n HN2.out) (base_alloc1 HB1.out _) ?q1_14
               case q1_1 => exact rfl
               case q1_2 => exact rfl
               case q1_3 => exact rfl
               case q1_4 => decide
               case q1_5 => exact rfl
               case q1_7 => exact rfl
               intro u2 w7 hown2 hgrow2 hnil2 hat2
               have HO7 := Lib.hid hown2
               have HG7 := Lib.hid hgrow2
               clear hown2 hgrow2 hnil2 hat2))
          go_roundg (n - (N + 1))
          case measure => have := HK.out.2.2; have := HNN.out; omega
          case rel =>
            refine ⟨N + 1, L ++ [(q : Int)], ⟨HK.out.1.step HPK.out, by rw [List.length_append, HK.out.2.1]; rfl, Nat.le_refl _⟩, by rw [ic_append]; exact HO7.out, ?_, ?_⟩
            · exact (HB5.out.alloc _).grown HG7.out (fun e => own_blk_ne HO5.out HB5.out (by decide) e.symm)
            · exact below_grown (HW5.out.alloc (by have := HB1.out; omega) _) (by have := HB1.out; simp; omega) HG7.out (fun g' e => by have := (HO5.out.lt g' e).1; omega)
        · go_upto_region 20 with fail
          generalize wr.setCell ⟨w.heap.size, q, none⟩ (.bool true) = w5 at HB5 HW5 HO5 HB1 ⊢
          go_wp2_with (first
            | (at_builtin; refine wpList_append_own_at _ ?q2_1 (.tmp 62) (.tmp 64) 32 ?q2_2 (w.heap.size + 1) 3 i0 (.int .i64 0) 1 8 Tryz.underlying32 HI0.out HZ0.out HZ1.out HZ2.out ?q2_3 ?q2_4 (.slice A0 N cap) N (ic L) ?q2_5 (HO5.out.alloc _) ⟨w5.heap.size, 0, none⟩ 1 1 [.int .i64 (q : Int)] ?q2_7 (rfl) (World.news_of_block (cs := #[.int .i64 (q : Int)]) (t := 3) (fr := (0, 0)) (heap_alloc_new _ _)) (by simp [Value.oneCell']) (h63_n HN2.out) (hby_n HN2.out) (base_alloc1 HB1.out _) ?q2_14
               case q2_1 => exact rfl
               case q2_2 => exact rfl
               case q2_3 => exact rfl
               case q2_4 => decide
               case q2_5 => exact rfl
               case q2_7 => exact rfl
               intro u2 w7 hown2 hgrow2 hnil2 hat2
               have HO7 := Lib.hid hown2
               have HG7 := Lib.hid hgrow2
               clear hown2 hgrow2 hnil2 hat2))
          go_roundg (n - (N + 1))
          case measure => have := HK.out.2.2; have := HNN.out; omega
          case rel =>
            refine ⟨N + 1, L ++ [(q : Int)], ⟨HK.out.1.step HPK.out, by rw [List.length_append, HK.out.2.1]; rfl, Nat.le_refl _⟩, by rw [ic_append]; exact HO7.out, ?_, ?_⟩
            · exact (HB5.out.alloc _).grown HG7.out (fun e => own_blk_ne HO5.out HB5.out (by decide) e.symm)
            · exact below_grown (HW5.out.alloc (by have := HB1.out; omega) _) (by have := HB1.out; simp; omega) HG7.out (fun g' e => by have := (HO5.out.lt g' e).1; omega)
end Go.Proofs.YtghefgifhebniaaGreatDoor

namespace Go.Proofs.YtghefgifhebniaaGreatDoor
open Go.RowKit Go.Sort
set_option linter.unusedVariables false
set_option linter.unusedSimpArgs false

set_option maxRecDepth 100000 in
set_option maxHeartbeats 4000000 in
theorem rnorder (NA LA : Option Addr) (n nc m lc : Nat) (D : Nds) (K : Lks) (hz : NetSz D n K m) (hv : netP D n K m) (w : World) (hD : NdIn w NA n D) (hK : LkIn w LA m K) :
    Calls Tryz.prog 19 #[.agg #[.slice NA n nc, .slice LA m lc]] w (ROrdPost n (eX D n K) (eY D n K) m w) := by
  have HAL : Hid (Below w.heap.size w (w.alloc (Obj.cells #[.slice NA n nc, .slice LA m lc] 25))) := (Below.refl _ w).alloc (Nat.le_refl _) _
  have HBB : Hid (Blk (w.alloc (Obj.cells #[.slice NA n nc, .slice LA m lc] 25)) w.heap.size 25 #[.slice NA n nc, .slice LA m lc]) := Blk.new _ _ _
  have SE : Hid (∀ w', Below w.heap.size w w' → Calls Tryz.prog 21 #[.agg #[.slice NA n nc, .slice LA m lc]] w' (EdPost m (eX D n K) (eY D n K) w')) := fun w' hb => redges NA LA n nc m lc D K w' hz.n2 hz.m2 (hD.below (Nat.le_refl _) hb) (hK.below (Nat.le_refl _) hb)
  have HM2 : Hid (m ≤ 2000) := hz.m2
  have SO : Hid (∀ w' A c, TabIn w' A m (eX D n K) (eY D n K) → Calls Tryz.prog 60 #[.int .i64 n, .slice A m c] w' (ROrdPost n (eX D n K) (eY D n K) m w')) := fun w' A c ht => rorder A n m c _ _ w' hv.1 (by have := hv.2.1; omega) (netP_ed hv) ht
  clear hz hD hK hv
  go_enter Tryz.func19, Tryz.ntmps19
  go_upto_region 1 with fail
  generalize w.alloc (Obj.cells #[.slice NA n nc, .slice LA m lc] 25) = w1 at HAL HBB ⊢
  have hs0 : w1.cell? ⟨w.heap.size, 0, none⟩ = some (.slice NA n nc) ∧ w1.cell? ⟨w.heap.size, 1, none⟩ = some (.slice LA m lc) := blk2 HBB.out
  have HS : Hid (∀ w', Below w1.heap.size w1 w' → w'.cell? ⟨w.heap.size, 0, none⟩ = some (.slice NA n nc) ∧ w'.cell? ⟨w.heap.size, 1, none⟩ = some (.slice LA m lc)) := fun w' hb => blk2 (HBB.out.call hb)
  go_region_held3 (fun w' => w'.cell? ⟨w.heap.size, 0, none⟩ = some (.slice NA n nc) ∧ w'.cell? ⟨w.heap.size, 1, none⟩ = some (.slice LA m lc)) (first
    | exact hs0
    | exact HS.out _ hq2
    | exact HS.out _ (hq2.trans (hq3.mono hq2.size))
    | exact HS.out _ (Below.refl _ w1).drew) (first
    | (go_at_call 21
       with_reducible refine (SE.out _ ?_).mono ?_
       focus (first | exact HAL.out | exact HAL.out.drew)
       rintro e w2 ⟨u, rfl, ho⟩
       have HO : Hid (EMem w1 w2 u m (edl m (eX D n K) (eY D n K))) := by first | exact ho | exact ⟨ho.1, (Below.refl _ w1).drew.trans ho.2⟩
       have hq2 : Below w1.heap.size w1 w2 := HO.out.2
       have HQ2 := Lib.hid hq2
       obtain ⟨A2, c2, rfl, ht2⟩ := HO.out.tab HM2.out
       have HT2 := Lib.hid ht2
       clear ho ht2)
    | (go_at_call 60
       with_reducible refine (SO.out _ _ _ HT2.out).mono ?_
       rintro e w3 ⟨u3, f3, rfl, hf3, ho3, hb3⟩
       have hq3 := hb3
       obtain ⟨A3, c3, rfl⟩ := nr_form ho3
       have HF3 := Lib.hid hf3
       have HO3 := Lib.hid ho3
       have HB3 := Lib.hid (below_step HQ2.out hb3)
       clear ho3 hb3 hf3))
  all_goals
    go_wp2_with fail
    go_ret2
    exact ⟨_, f3, rfl, HF3.out, own_lower HO3.out (Nat.le_trans HAL.out.size HQ2.out.size), below_step HAL.out HB3.out⟩
end Go.Proofs.YtghefgifhebniaaGreatDoor

namespace Go.Proofs.YtghefgifhebniaaGreatDoor
open Go.RowKit Go.Sort
set_option linter.unusedVariables false
set_option linter.unusedSimpArgs false

theorem eq_own {B B' : Nat} {u u' : Value} {L : List Int} {w : World} (h : w.ownsRow B 3 1 u L.length (ic L)) (h' : w.ownsRow B' 3 1 u' L.length (ic L)) (hl : L.length ≤ 2000) : Calls Tryz.prog 22 #[u, u'] w fun e w' => e = .returned (.bool true) ∧ Below w.heap.size w w' := by
  by_cases hL : L = []
  · subst hL
    obtain ⟨A, c, rfl⟩ := nr_form h
    obtain ⟨A', c', rfl⟩ := nr_form h'
    refine (Tryz.slices_Equal_int_empty A A' c 0 c' w (by omega)).mono ?_
    rintro e w' ⟨he, rfl⟩
    exact ⟨by rw [he]; rfl, Below.refl _ _⟩
  · obtain ⟨g, c, rfl, hg, hc⟩ := own_ints h hL
    obtain ⟨g', c', rfl, hg', hc'⟩ := own_ints h' hL
    refine (Tryz.slices_Equal_int g 0 L.length c g' 0 L.length c' L L w (Nat.le_refl _) (Nat.le_refl _) (by omega) (by omega) hc hc').mono ?_
    rintro e w' ⟨he, q, rfl⟩
    exact ⟨by rw [he]; simp, below_drewN (Below.refl _ _) _⟩
theorem eq_nil (A : Option Addr) (c : Nat) (w : World) : Calls Tryz.prog 22 #[.slice A 0 c, .slice none 0 0] w fun e w' => e = .returned (.bool true) ∧ Below w.heap.size w w' := by
  refine (Tryz.slices_Equal_int_empty A none c 0 0 w (by omega)).mono ?_
  rintro e w' ⟨he, rfl⟩
  exact ⟨by rw [he]; rfl, Below.refl _ _⟩
theorem eq_tab {A B : Option Addr} {n c d : Nat} {X Y : Nat → Int} {w : World} (h : TabIn w A n X Y) (h' : TabIn w B n X Y) : Calls Tryz.prog 20 #[.slice A n c, .slice B n d] w fun e w' => e = .returned (.bool true) ∧ Below w.heap.size w w' := by
  refine (eequal A B n n c d X Y X Y w h h').mono ?_
  rintro e w' ⟨he, hb⟩
  exact ⟨by rw [he, boolOf_true (show tabEq n X Y n X Y from ⟨rfl, fun k _ => ⟨rfl, rfl⟩⟩)], hb⟩
set_option maxRecDepth 100000 in
set_option maxHeartbeats 8000000 in
theorem netedges (NA LA : Option Addr) (n nc m lc : Nat) (D : Nds) (K : Lks) (w : World) (hD : NdIn w NA n D) (hK : LkIn w LA m K) (hE : Env w) :
    Calls Tryz.prog 3 #[.agg #[.slice NA n nc, .slice LA m lc]] w fun e w' => e = .returned (.bool true) ∧ Below w.heap.size w w' := by
  have hal : Below w.heap.size w (w.alloc (Obj.cells #[.slice NA n nc, .slice LA m lc] 25)) := (Below.refl _ w).alloc (Nat.le_refl _) _
  have HAL := Lib.hid hal
  have HB0 : Hid (Blk (w.alloc (Obj.cells #[.slice NA n nc, .slice LA m lc] 25)) w.heap.size 25 #[.slice NA n nc, .slice LA m lc]) := Blk.new _ _ _
  have HE0 := Lib.hid (hE.below hal)
  have HD := Lib.hid hD
  have HK := Lib.hid hK
  clear hD hK hE hal
  obtain ⟨V, hV⟩ : ∃ V, Hid (V = boolOf (lgP D n K m)) := ⟨_, rfl⟩
  go_enter Tryz.func3, Tryz.ntmps3
  go_upto_region 3 with (first
    | (go_at_call 14
       with_reducible refine (awake26 _ HE0.out).mono ?_
       rintro e w1 ⟨rfl, hb1⟩
       have HB1 := Lib.hid (below_step HAL.out hb1)
       have HBB := Lib.hid (HB0.out.call hb1)
       clear hb1))
  obtain ⟨y0, y1⟩ := blk2 HBB.out
  have SL : Hid (Calls Tryz.prog 15 #[.agg #[.slice NA n nc, .slice LA m lc]] w1 fun e w' => e = .returned (.bool V) ∧ Below w1.heap.size w1 w') := by rw [hV.out]; exact tlarge NA LA n nc m lc D K w1 (HD.out.below (Nat.le_refl _) HB1.out) (HK.out.below (Nat.le_refl _) HB1.out)
  by_cases hl : lgP D n K m
  · obtain rfl : V = true := hV.out.trans (boolOf_true hl)
    clear hl hV
    go_wp2_with (first
      | (go_at_call 15
         with_reducible refine SL.out.mono ?_
         rintro e w2 ⟨rfl, hb2⟩
         have HB2 := Lib.hid (below_step HB1.out hb2)
         clear hb2))
    go_ret
    exact ⟨rfl, HB2.out⟩
  obtain rfl : V = false := hV.out.trans (boolOf_false hl)
  have HZ := Lib.hid (lg_sz hl)
  clear hl hV
  have SV : Hid (∀ w', Below w.heap.size w w' → Calls Tryz.prog 18 #[.agg #[.slice NA n nc, .slice LA m lc]] w' fun e w'' => e = .returned (.bool (boolOf (netP D n K m))) ∧ Below w'.heap.size w' w'') := fun w' hb => wvalidN NA LA n nc m lc D K HZ.out w' (HD.out.below (Nat.le_refl _) hb) (HK.out.below (Nat.le_refl _) hb)
  by_cases hP : netP D n K m
  case neg =>
    rw [boolOf_false hP] at SV
    have SE : Hid (∀ w', Below w.heap.size w w' → Calls Tryz.prog 16 #[.agg #[.slice NA n nc, .slice LA m lc]] w' fun e w'' => e = .returned (.tuple #[.slice none 0 0, .int .i64 1]) ∧ Below w'.heap.size w' w'') := fun w' hb => by
      refine (tnedges NA LA n nc m lc D K HZ.out w' (HD.out.below (Nat.le_refl _) hb) (HK.out.below (Nat.le_refl _) hb)).mono ?_
      rintro e w'' (⟨_, h1, h2⟩ | ⟨h, _⟩)
      · exact ⟨h1, h2⟩
      · exact absurd h hP
    have SO : Hid (∀ w', Below w.heap.size w w' → Calls Tryz.prog 17 #[.agg #[.slice NA n nc, .slice LA m lc]] w' fun e w'' => e = .returned (.tuple #[.slice none 0 0, .int .i64 1]) ∧ Below w'.heap.size w' w'') := fun w' hb => by
      refine (tnorder NA LA n nc m lc D K HZ.out w' (HD.out.below (Nat.le_refl _) hb) (HK.out.below (Nat.le_refl _) hb)).mono ?_
      rintro e w'' (⟨_, h1, h2⟩ | ⟨h, _⟩)
      · exact ⟨h1, h2⟩
      · exact absurd h hP
    clear hP
    go_wp2_with (first
      | (go_at_call 15
         with_reducible refine SL.out.mono ?_
         rintro e w2 ⟨rfl, hb2⟩
         have HB2 := Lib.hid (below_step HB1.out hb2)
         have HX2 := Lib.hid (HBB.out.call hb2)
         obtain ⟨y0, y1⟩ := blk2 HX2.out
         clear hb2)
      | (go_at_call 16
         with_reducible refine (SE.out _ HB2.out).mono ?_
         rintro e w3 ⟨rfl, hb2⟩
         have HB3 := Lib.hid (below_step HB2.out hb2)
         have HX3 := Lib.hid (HX2.out.call hb2)
         obtain ⟨y0, y1⟩ := blk2 HX3.out
         clear hb2)
      | (go_at_call 17
         with_reducible refine (SO.out _ HB3.out).mono ?_
         rintro e w4 ⟨rfl, hb2⟩
         have HB4 := Lib.hid (below_step HB3.out hb2)
         have HX4 := Lib.hid (HX3.out.call hb2)
         obtain ⟨y0, y1⟩ := blk2 HX4.out
         clear hb2)
      | (go_at_call 18
         with_reducible refine (SV.out _ HB4.out).mono ?_
         rintro e w5 ⟨rfl, hb2⟩
         have HB5 := Lib.hid (below_step HB4.out hb2)
         have HX5 := Lib.hid (HX4.out.call hb2)
         obtain ⟨y0, y1⟩ := blk2 HX5.out
         clear hb2))
    go_ret
    exact ⟨rfl, HB5.out⟩
  rw [boolOf_true hP] at SV
  have HP := Lib.hid hP
  have HN2 : Hid (n ≤ 2000 ∧ m ≤ 2000) := ⟨HZ.out.n2, HZ.out.m2⟩
  have SE : Hid (∀ w', Below w.heap.size w w' → Calls Tryz.prog 16 #[.agg #[.slice NA n nc, .slice LA m lc]] w' fun e w'' => ∃ A c, e = .returned (.tuple #[.slice A m c, .int .i64 0]) ∧ TabIn w'' A m (eX D n K) (eY D n K) ∧ Below w'.heap.size w' w'') := fun w' hb => by
    refine (tnedges NA LA n nc m lc D K HZ.out w' (HD.out.below (Nat.le_refl _) hb) (HK.out.below (Nat.le_refl _) hb)).mono ?_
    rintro e w'' (⟨h, _⟩ | ⟨_, u, he, hm⟩)
    · exact absurd HP.out h
    · obtain ⟨A, c, rfl, ht⟩ := hm.tab HN2.out.2
      exact ⟨A, c, he, ht, hm.2⟩
  have SG : Hid (∀ w', Below w.heap.size w w' → Calls Tryz.prog 21 #[.agg #[.slice NA n nc, .slice LA m lc]] w' fun e w'' => ∃ A c, e = .returned (.slice A m c) ∧ TabIn w'' A m (eX D n K) (eY D n K) ∧ Below w'.heap.size w' w'') := fun w' hb => by
    refine (redges NA LA n nc m lc D K w' HN2.out.1 HN2.out.2 (HD.out.below (Nat.le_refl _) hb) (HK.out.below (Nat.le_refl _) hb)).mono ?_
    rintro e w'' ⟨u, he, hm⟩
    obtain ⟨A, c, rfl, ht⟩ := hm.tab HN2.out.2
    exact ⟨A, c, he, ht, hm.2⟩
  have SO : Hid (∀ w', Below w.heap.size w w' → Calls Tryz.prog 17 #[.agg #[.slice NA n nc, .slice LA m lc]] w' (OrdPost2 n (eX D n K) (eY D n K) m w')) := fun w' hb => by
    refine (tnorder NA LA n nc m lc D K HZ.out w' (HD.out.below (Nat.le_refl _) hb) (HK.out.below (Nat.le_refl _) hb)).mono ?_
    rintro e w'' (⟨h, _⟩ | ⟨_, h⟩)
    · exact absurd HP.out h
    · exact h
  have SQ : Hid (∀ w', Below w.heap.size w w' → Calls Tryz.prog 19 #[.agg #[.slice NA n nc, .slice LA m lc]] w' (ROrdPost n (eX D n K) (eY D n K) m w')) := fun w' hb => rnorder NA LA n nc m lc D K HZ.out HP.out w' (HD.out.below (Nat.le_refl _) hb) (HK.out.below (Nat.le_refl _) hb)
  have HRL : Hid ((ordR n (eX D n K) (eY D n K) m).length ≤ 2000) := by
    show _ ≤ _
    have h1 := ordO_len n (eX D n K) (eY D n K) m
    have h2 := HN2.out.1
    unfold ordR
    split
    · simp
    · omega
  unfold OrdPost2 at SO
  unfold ROrdPost at SQ
  by_cases hfull : (ordO n (eX D n K) (eY D n K) m).length < n
  · have HF : Hid (∀ f : Bool, (f = true ↔ ¬ (ordO n (eX D n K) (eY D n K) m).length < n) → f = false) := fun f h => by
      cases f with
      | false => rfl
      | true => exact absurd hfull (h.1 rfl)
    have e1 : ordE n (eX D n K) (eY D n K) m = 22 := by unfold ordE; rw [if_pos hfull]
    have e2 : ordR n (eX D n K) (eY D n K) m = [] := by unfold ordR; rw [if_pos hfull]
    rw [e1, e2] at SO
    rw [e2] at SQ HRL
    clear e1 e2 hfull hP
    go_wp2_with (first
      | (go_at_call 15
         with_reducible refine SL.out.mono ?_
         rintro e w2 ⟨rfl, hb2⟩
         have HB2 := Lib.hid (below_step HB1.out hb2)
         have HX2 := Lib.hid (HBB.out.call hb2)
         obtain ⟨y0, y1⟩ := blk2 HX2.out
         clear hb2)
      | (go_at_call 16
         with_reducible refine (SE.out _ HB2.out).mono ?_
         rintro e w3 ⟨A3, c3, rfl, ht, hb2⟩
         have HB3 := Lib.hid (below_step HB2.out hb2)
         have HX3 := Lib.hid (HX2.out.call hb2)
         obtain ⟨y0, y1⟩ := blk2 HX3.out
         have HT3 := Lib.hid ht
         clear ht
         clear hb2)
      | (go_at_call 17
         with_reducible refine (SO.out _ HB3.out).mono ?_
         rintro e w4 ⟨u4, rfl, ho, hb2⟩
         have HB4 := Lib.hid (below_step HB3.out hb2)
         have HX4 := Lib.hid (HX3.out.call hb2)
         obtain ⟨y0, y1⟩ := blk2 HX4.out
         obtain ⟨A4, c4, rfl⟩ := nr_form ho
         have HO4 := Lib.hid ho
         have HT4 := Lib.hid (HT3.out.below (Nat.le_refl _) hb2)
         clear ho
         clear hb2)
      | (go_at_call 18
         with_reducible refine (SV.out _ HB4.out).mono ?_
         rintro e w5 ⟨rfl, hb2⟩
         have HB5 := Lib.hid (below_step HB4.out hb2)
         have HX5 := Lib.hid (HX4.out.call hb2)
         obtain ⟨y0, y1⟩ := blk2 HX5.out
         have HO5 := Lib.hid (own_below HO4.out hb2)
         have HT5 := Lib.hid (HT4.out.below (Nat.le_refl _) hb2)
         clear hb2)
      | (go_at_call 19
         with_reducible refine (SQ.out _ HB5.out).mono ?_
         rintro e w6 ⟨u6, f6, rfl, hf6, ho, hb2⟩
         have HB6 := Lib.hid (below_step HB5.out hb2)
         have HX6 := Lib.hid (HX5.out.call hb2)
         obtain ⟨y0, y1⟩ := blk2 HX6.out
         obtain ⟨A6, c6, rfl⟩ := nr_form ho
         obtain rfl : f6 = false := HF.out f6 hf6
         have HQ6 := Lib.hid ho
         have HO6 := Lib.hid (own_below HO5.out hb2)
         have HT6 := Lib.hid (HT5.out.below (Nat.le_refl _) hb2)
         clear ho hf6
         clear hb2)
      | (go_at_call 21
         with_reducible refine (SG.out _ HB6.out).mono ?_
         rintro e w7 ⟨A7, c7, rfl, ht, hb2⟩
         have HB7 := Lib.hid (below_step HB6.out hb2)
         have HS7 := Lib.hid ht
         have HQ7 := Lib.hid (own_below HQ6.out hb2)
         have HO7 := Lib.hid (own_below HO6.out hb2)
         have HT7 := Lib.hid (HT6.out.below (Nat.le_refl _) hb2)
         clear ht
         clear hb2)
      | (go_at_call 20
         with_reducible refine (eq_tab HT7.out HS7.out).mono ?_
         rintro e w8 ⟨rfl, hb2⟩
         have HB8 := Lib.hid (below_step HB7.out hb2)
         have HQ8 := Lib.hid (own_below HQ7.out hb2)
         have HO8 := Lib.hid (own_below HO7.out hb2)
         clear hb2)
      | (go_at_call 22
         refine (eq_nil A4 c4 _).mono ?_
         rintro e w9 ⟨rfl, hb2⟩
         have HB9 := Lib.hid (below_step HB8.out hb2)
         clear hb2))
    go_ret
    exact ⟨rfl, HB9.out⟩
  · have HF : Hid (∀ f : Bool, (f = true ↔ ¬ (ordO n (eX D n K) (eY D n K) m).length < n) → f = true) := fun f h => h.2 hfull
    have e1 : ordE n (eX D n K) (eY D n K) m = 0 := by unfold ordE; rw [if_neg hfull]
    rw [e1] at SO
    clear e1 hfull hP
    generalize ordR n (eX D n K) (eY D n K) m = L at SO SQ HRL
    go_wp2_with (first
      | (go_at_call 15
         with_reducible refine SL.out.mono ?_
         rintro e w2 ⟨rfl, hb2⟩
         have HB2 := Lib.hid (below_step HB1.out hb2)
         have HX2 := Lib.hid (HBB.out.call hb2)
         obtain ⟨y0, y1⟩ := blk2 HX2.out
         clear hb2)
      | (go_at_call 16
         with_reducible refine (SE.out _ HB2.out).mono ?_
         rintro e w3 ⟨A3, c3, rfl, ht, hb2⟩
         have HB3 := Lib.hid (below_step HB2.out hb2)
         have HX3 := Lib.hid (HX2.out.call hb2)
         obtain ⟨y0, y1⟩ := blk2 HX3.out
         have HT3 := Lib.hid ht
         clear ht
         clear hb2)
      | (go_at_call 17
         with_reducible refine (SO.out _ HB3.out).mono ?_
         rintro e w4 ⟨u4, rfl, ho, hb2⟩
         have HB4 := Lib.hid (below_step HB3.out hb2)
         have HX4 := Lib.hid (HX3.out.call hb2)
         obtain ⟨y0, y1⟩ := blk2 HX4.out
         obtain ⟨A4, c4, rfl⟩ := nr_form ho
         have HO4 := Lib.hid ho
         have HT4 := Lib.hid (HT3.out.below (Nat.le_refl _) hb2)
         clear ho
         clear hb2)
      | (go_at_call 18
         with_reducible refine (SV.out _ HB4.out).mono ?_
         rintro e w5 ⟨rfl, hb2⟩
         have HB5 := Lib.hid (below_step HB4.out hb2)
         have HX5 := Lib.hid (HX4.out.call hb2)
         obtain ⟨y0, y1⟩ := blk2 HX5.out
         have HO5 := Lib.hid (own_below HO4.out hb2)
         have HT5 := Lib.hid (HT4.out.below (Nat.le_refl _) hb2)
         clear hb2)
      | (go_at_call 19
         with_reducible refine (SQ.out _ HB5.out).mono ?_
         rintro e w6 ⟨u6, f6, rfl, hf6, ho, hb2⟩
         have HB6 := Lib.hid (below_step HB5.out hb2)
         have HX6 := Lib.hid (HX5.out.call hb2)
         obtain ⟨y0, y1⟩ := blk2 HX6.out
         obtain ⟨A6, c6, rfl⟩ := nr_form ho
         obtain rfl : f6 = true := HF.out f6 hf6
         have HQ6 := Lib.hid ho
         have HO6 := Lib.hid (own_below HO5.out hb2)
         have HT6 := Lib.hid (HT5.out.below (Nat.le_refl _) hb2)
         clear ho hf6
         clear hb2)
      | (go_at_call 21
         with_reducible refine (SG.out _ HB6.out).mono ?_
         rintro e w7 ⟨A7, c7, rfl, ht, hb2⟩
         have HB7 := Lib.hid (below_step HB6.out hb2)
         have HS7 := Lib.hid ht
         have HQ7 := Lib.hid (own_below HQ6.out hb2)
         have HO7 := Lib.hid (own_below HO6.out hb2)
         have HT7 := Lib.hid (HT6.out.below (Nat.le_refl _) hb2)
         clear ht
         clear hb2)
      | (go_at_call 20
         with_reducible refine (eq_tab HT7.out HS7.out).mono ?_
         rintro e w8 ⟨rfl, hb2⟩
         have HB8 := Lib.hid (below_step HB7.out hb2)
         have HQ8 := Lib.hid (own_below HQ7.out hb2)
         have HO8 := Lib.hid (own_below HO7.out hb2)
         clear hb2)
      | (go_at_call 22
         with_reducible refine (eq_own HO8.out HQ8.out HRL.out).mono ?_
         rintro e w9 ⟨rfl, hb2⟩
         have HB9 := Lib.hid (below_step HB8.out hb2)
         clear hb2))
    go_ret
    exact ⟨rfl, HB9.out⟩
end Go.Proofs.YtghefgifhebniaaGreatDoor

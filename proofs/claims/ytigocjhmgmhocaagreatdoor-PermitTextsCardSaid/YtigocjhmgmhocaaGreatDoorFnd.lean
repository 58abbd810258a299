/- Findings in memory; slices.Grow and slices.Concat of findings. -/
import Derived.Test.YtigocjhmgmhocaaGreatDoorYrs
import Derived.Test.YtigocjhmgmhocaaGreatDoorNumeral
import Derived.Test.YtigocjhmgmhocaaGreatDoorShelf
import Derived.Lib.AppendZerosOnto
import Derived.Lib.AppendZeros
import Derived.Lib.SliceRun
import Derived.Lib.Walk
import Derived.Deep.Upon
namespace Go.Proofs.YtigocjhmgmhocaaGreatDoor
open Go.RowKit
set_option linter.unusedVariables false
set_option linter.unusedSimpArgs false

/-- The name of a number. -/
def fnm (n : Int) : ByteArray := ⟨(Lib.itoa n).toArray⟩
/-- Findings as cells. -/
def fc (L : List (Int × Int)) : List Value := L.flatMap fun p => [.int .i64 p.1, .string (fnm p.2)]
def fK (L : List (Int × Int)) (k : Nat) : Int := (L.getD k (0, 0)).1
def fV (L : List (Int × Int)) (k : Nat) : Int := (L.getD k (0, 0)).2
theorem fc_append (L M : List (Int × Int)) : fc (L ++ M) = fc L ++ fc M := by unfold fc; rw [List.flatMap_append]
theorem fc_one (x y : Int) : fc [(x, y)] = [.int .i64 x, .string (fnm y)] := rfl
theorem fc_len (L : List (Int × Int)) : (fc L).length = L.length * 2 := by
  induction L with
  | nil => rfl
  | cons p L ih => show (fc ([p] ++ L)).length = _; rw [fc_append, List.length_append, ih]; simp [fc]; omega
theorem fc_at (L : List (Int × Int)) (k : Nat) (h : k < L.length) : (fc L)[k * 2]? = some (.int .i64 (fK L k)) ∧ (fc L)[k * 2 + 1]? = some (.string (fnm (fV L k))) := by
  induction L generalizing k with
  | nil => simp at h
  | cons p L ih =>
    cases k with
    | zero => exact ⟨rfl, rfl⟩
    | succ k =>
      have := ih k (by simp at h; omega)
      have e1 : (k + 1) * 2 = k * 2 + 1 + 1 := by omega
      rw [e1]
      exact this
theorem fc_cells (L : List (Int × Int)) : ∀ u ∈ fc L, u.oneCell' = true := by
  intro u hu
  unfold fc at hu
  rw [List.mem_flatMap] at hu
  obtain ⟨p, _, hu⟩ := hu
  simp at hu
  rcases hu with rfl | rfl <;> rfl
def FndAt (w : World) (b off : Nat) (L : List (Int × Int)) : Prop := b < w.heap.size ∧ ∀ k, k < L.length → w.cell? ⟨b, off + k * 2, none⟩ = some (.int .i64 (fK L k)) ∧ w.cell? ⟨b, off + k * 2 + 1, none⟩ = some (.string (fnm (fV L k)))
theorem FndAt.below {w w' : World} {B b off : Nat} {L : List (Int × Int)} (h : FndAt w b off L) (hb : Below B w w') (hB : b < B) : FndAt w' b off L :=
  ⟨Nat.lt_of_lt_of_le h.1 (Nat.le_trans (Nat.le_refl _) hb.size), fun k hk => by
    obtain ⟨h0, h1⟩ := h.2 k hk
    exact ⟨(hb.cell (p := ⟨b, off + k * 2, none⟩) hB).trans h0, (hb.cell (p := ⟨b, off + k * 2 + 1, none⟩) hB).trans h1⟩⟩
/-- The block holds findings. -/
def FTag (w : World) (b : Nat) : Prop := ∃ cur, w.heap[b]? = some (.cells cur 48 (0, 0))
/-- A slice of findings. -/
def FndIn (w : World) (A : Option Addr) (L : List (Int × Int)) : Prop := L.length ≤ 9223372036854775807 ∧ ((A = none ∧ L = []) ∨ ∃ b off, A = some ⟨b, off, none⟩ ∧ FndAt w b off L ∧ FTag w b)
theorem FndIn.below {w w' : World} {B : Nat} {A : Option Addr} {L : List (Int × Int)} (h : FndIn w A L) (hB : w.heap.size ≤ B) (hb : Below B w w') : FndIn w' A L := by
  refine ⟨h.1, ?_⟩
  rcases h.2 with h0 | ⟨b, off, hA, ht, cur, hg⟩
  · exact .inl h0
  · exact .inr ⟨b, off, hA, ht.below hb (Nat.lt_of_lt_of_le ht.1 hB), cur, (hb.block b (Nat.lt_of_lt_of_le ht.1 hB)).trans hg⟩
theorem FndIn.at {w : World} {A : Option Addr} {k : Nat} {L : List (Int × Int)} (h : FndIn w A L) (hk : k < L.length) : ∃ b off, A = some ⟨b, off, none⟩ ∧ b < w.heap.size ∧ w.cell? ⟨b, off + k * 2, none⟩ = some (.int .i64 (fK L k)) ∧ w.cell? ⟨b, off + k * 2 + 1, none⟩ = some (.string (fnm (fV L k))) := by
  rcases h.2 with ⟨_, rfl⟩ | ⟨b, off, hA, ht, _⟩
  · simp at hk
  · exact ⟨b, off, hA, ht.1, ht.2 k hk⟩
/-- A row of findings that is owned. -/
def RMem (w wr : World) (u : Value) (N : Nat) (L : List (Int × Int)) : Prop := wr.ownsRow w.heap.size 48 2 u N (fc L) ∧ N = L.length ∧ Below w.heap.size w wr
theorem RMem.nil (w wr : World) (h : Below w.heap.size w wr) : RMem w wr (.slice none 0 0) 0 [] := ⟨World.ownsRow_nil _ _ _ _, rfl, h⟩
theorem RMem.call {w wr w' : World} {u : Value} {N : Nat} {L : List (Int × Int)} (h : RMem w wr u N L) (hb : Below wr.heap.size wr w') : RMem w w' u N L := ⟨own_below h.1 hb, h.2.1, below_step h.2.2 hb⟩
theorem RMem.form {w wr : World} {u : Value} {N : Nat} {L : List (Int × Int)} (h : RMem w wr u N L) : ∃ A cap, u = .slice A N cap ∧ N ≤ cap := by
  rcases h.1.2 with ⟨hv, h0⟩ | ⟨g, cap, cur, hv, _, _, hnc, _⟩
  · exact ⟨none, 0, by rw [hv, h0], by omega⟩
  · exact ⟨_, cap, hv, hnc⟩
theorem RMem.fnd {w wr : World} {A : Option Addr} {N cap : Nat} {L : List (Int × Int)} (h : RMem w wr (.slice A N cap) N L) (h300 : N ≤ 300) : FndIn wr A L := by
  refine ⟨by have := h.2.1; omega, ?_⟩
  rcases h.1.2 with ⟨hv, h0⟩ | ⟨g, cap', cur, hv, _, hgb, hnc, _⟩
  · left
    injection hv with hA _ _
    exact ⟨hA, List.eq_nil_of_length_eq_zero (by rw [← h.2.1, h0])⟩
  · right
    injection hv with hA _ _
    subst hA
    refine ⟨g, 0, rfl, ⟨(h.1.lt g rfl).2, fun k hk => ?_⟩, cur, hgb⟩
    obtain ⟨h1, h2⟩ := fc_at L k hk
    have hN := h.2.1
    rw [Nat.zero_add]
    exact ⟨(h.1.cellAt (k * 2) (by omega)).trans h1, (h.1.cellAt (k * 2 + 1) (by omega)).trans h2⟩
/-- One finding more, out of a new block. -/
theorem RMem.app {w wr w' : World} {u v : Value} {N : Nat} {L : List (Int × Int)} {x y : Int} (h : RMem w wr u N L) {cs : Array Value} {t : TypeId} (hown : w'.ownsRow w.heap.size 48 2 v (N + 1) (fc L ++ [.int .i64 x, .string (fnm y)])) (hg : (wr.alloc (.cells cs t)).grownBy w' u.ownBlock) : RMem w w' v (N + 1) (L ++ [(x, y)]) :=
  ⟨by rw [fc_append, fc_one]; exact hown, by rw [List.length_append, h.2.1]; rfl, below_own (h.1.alloc _) (h.2.2.alloc h.2.2.size _) hg⟩
/-- The row stays while another row is appended to. -/
theorem RMem.kept {w wr w' : World} {u : Value} {N : Nat} {L : List (Int × Int)} (h : RMem w wr u N L) {row : Option Nat} (hg : wr.grownBy w' row) (hne : u.ownBlock = none ∨ u.ownBlock ≠ row) (hb : Below w.heap.size w w') : RMem w w' u N L :=
  ⟨h.1.kept hg hne, h.2.1, hb⟩
theorem infoF : (Tryz.prog.info? 48).map (fun i => (i.zero, i.size, i.bytes)) = some (some (.agg #[.int .i64 0, .string ByteArray.empty]), 2, 24) := by kernel_rfl
theorem h63_f {n m : Nat} (h : n ≤ 300) (h2 : m ≤ 300) : n + m ≤ maxLen := by simp only [maxLen]; omega
theorem hby_f {n m : Nat} (h : n ≤ 300) (h2 : m ≤ 300) : (n + m) * 24 ≤ 140737488355328 := by omega

set_option maxHeartbeats 2000000 in
set_option maxRecDepth 100000 in
theorem fgrow (n : Nat) (h1 : n ≤ 300) (w : World) :
    Calls Tryz.prog 59 #[.slice none 0 0, .int .i64 (n : Int)] w fun e w' => ∃ v, e = .returned v ∧ RMem w w' v 0 [] := by
  rcases Nat.eq_zero_or_pos n with rfl | h0
  · have h3 : IntKind.i64.wrap (0 : Int) = 0 := by decide
    clear h1
    go_enter Tryz.func59, Tryz.ntmps59
    go_wp2_with fail
    go_ret
    exact ⟨_, rfl, RMem.nil _ _ (Below.refl _ _)⟩
  obtain ⟨i0, hi0, hz0, hs0, hby⟩ := info_parts1 infoF
  have hold : (Builtin.firstCells i0.size 0 (.slice none 0 0)).run Tryz.prog w.drew = .ok (#[] : Array Value) w.drew := run_firstCells_none w.drew i0.size 0 0 0
  have hge := grownCap_ge w n 0 48
  have hle := grownCap_le_maxLen w n 0 48 (by unfold maxLen; omega)
  have hr : ∀ ty, (Builtin.append_ #[40, 3] ty #[.slice none 0 0, .int .i64 (n : Int)]).run Tryz.prog w =
      .ok (.slice (some ⟨w.heap.size, 0, none⟩) n (grownCap w n 0 48)) (w.drew.alloc (.cells (#[] ++ Builtin.zeroCells (Value.agg #[.int .i64 0, .string ByteArray.empty]).cells n ++ Builtin.zeroCells (Value.agg #[.int .i64 0, .string ByteArray.empty]).cells (grownCap w n 0 48 - n)) 48)) := fun ty => by
    have h := Lib.run_append_grow_zeros w 40 3 ty 48 i0 (.agg #[.int .i64 0, .string ByteArray.empty]) .i64 .i64 Tryz.underlying40 Tryz.underlying3 hi0 hz0 none 0 0 [] hold n h0 (by omega) (by omega) (by omega) (by rw [hby]; omega) (growslice_fits (by omega) (by rw [hby]; omega))
    rw [Nat.zero_add] at h
    exact h
  obtain ⟨C, hC⟩ : ∃ C, C = grownCap w n 0 48 := ⟨_, rfl⟩
  rw [← hC] at hr hge hle
  have HO : Hid (∀ u, u = (w.drew.alloc (.cells (#[] ++ Builtin.zeroCells (Value.agg #[.int .i64 0, .string ByteArray.empty]).cells n ++ Builtin.zeroCells (Value.agg #[.int .i64 0, .string ByteArray.empty]).cells (C - n)) 48)) → RMem w u (.slice (some ⟨w.heap.size, 0, none⟩) 0 C) 0 []) := by
    rintro u rfl
    refine ⟨⟨rfl, .inr ⟨w.heap.size, C, _, rfl, Nat.le_refl _, heap_alloc_new w.drew _, Nat.zero_le _, hle, ?_, rfl⟩⟩, rfl, (Below.refl _ w).drew.alloc (Nat.le_refl _) _⟩
    simp only [Array.size_append, size_zeroCells]
    have : (Value.agg #[.int .i64 0, .string ByteArray.empty]).cells.size = 2 := rfl
    rw [this]
    simp
    omega
  have h2 : wrap64 ((n : Int) - 0) = (n : Int) := by unfold wrap64; omega
  have h3 : IntKind.i64.wrap ((n : Int) - 0) = (n : Int) := by rw [IntKind.wrap_i64]; omega
  have h3' : IntKind.i64.wrap (n : Int) = (n : Int) := by rw [IntKind.wrap_i64]; omega
  have h4 : decide ((0 : Int) < (n : Int)) = true := by simp; omega
  have h5 : decide (0 < n) = true := decide_eq_true h0
  have h6 : decide ((n : Int) < 0) = false := by simp
  have HL := Lib.hid hle
  have hr2 := Lib.hid hr
  have hC0 : (0 : Int) ≤ (C : Int) := by omega
  clear hold hge hle hC hr h0 h1
  go_enter Tryz.func59, Tryz.ntmps59
  go_wp2_with (at_builtin; refine Lib.wpList_append_run _ rfl _ _ _ _ rfl _ _ rfl rfl _ _ (hr2.out _) ?_)
  go_ret
  exact ⟨_, rfl, HO.out _ (by simp; rfl)⟩
/-- The first i of three lists, one behind the other. -/
def preL (Ls : Nat → List (Int × Int)) : Nat → List (Int × Int)
  | 0 => []
  | i + 1 => preL Ls i ++ Ls i
theorem pre_len {Ls : Nat → List (Int × Int)} {N : Nat} (h : (preL Ls 3).length = N) {i : Nat} (hi : i < 3) : (preL Ls i).length + (Ls i).length ≤ N := by
  have e : (preL Ls 3).length = (Ls 0).length + (Ls 1).length + (Ls 2).length := by simp [preL]; omega
  have h3 : i = 0 ∨ i = 1 ∨ i = 2 := by omega
  rcases h3 with rfl | rfl | rfl <;> simp [preL] <;> omega
theorem fnd_news {w : World} {b off : Nat} {L : List (Int × Int)} (ht : FndAt w b off L) : ∀ j u, (fc L)[j]? = some u → w.cell? ((⟨b, off, none⟩ : Addr).add j) = some u := by
  intro j u hj
  have hlen : j < (fc L).length := by
    rcases Nat.lt_or_ge j (fc L).length with h | h
    · exact h
    · rw [List.getElem?_eq_none h] at hj; cases hj
  rw [fc_len] at hlen
  have hk : j / 2 < L.length := by omega
  obtain ⟨h1, h2⟩ := fc_at L (j / 2) hk
  have hT := ht.2 (j / 2) hk
  have ha : (⟨b, off, none⟩ : Addr).add j = ⟨b, off + j, none⟩ := by
    unfold Addr.add
    by_cases h : j = 0
    · subst h; rfl
    · simp [h]
  by_cases hp : j % 2 = 0
  · have e : j = j / 2 * 2 := by omega
    rw [← e] at h1 hT
    rw [hj] at h1
    rw [Option.some.inj h1, ha]; exact hT.1
  · have e : j = j / 2 * 2 + 1 := by omega
    have e' : off + j / 2 * 2 + 1 = off + j := by omega
    rw [← e] at h2
    rw [e'] at hT
    rw [hj] at h2
    rw [Option.some.inj h2, ha]; exact hT.2
theorem own_grown_below {w wr w' : World} {e : TypeId} {s n : Nat} {v : Value} {xs : List Value} (h : wr.ownsRow w.heap.size e s v n xs) (hb : Below w.heap.size w wr) (hg : wr.grownBy w' v.ownBlock) : Below w.heap.size w w' := by
  refine ⟨hg.os.trans hb.os, hg.tape.trans hb.tape, hg.output.trans hb.output, Nat.le_trans hb.size hg.size, fun k hk => ?_⟩
  refine (hg.block k (Nat.lt_of_lt_of_le hk hb.size) ?_).trans (hb.block k hk)
  intro e
  have := (h.lt k e.symm).1
  omega
set_option maxRecDepth 100000 in
set_option maxHeartbeats 4000000 in
theorem fconcat (g : Nat) (Aa : Nat → Option Addr) (cc : Nat → Nat) (Ls : Nat → List (Int × Int)) (w : World) (hL : ∀ i, i < 3 → FndIn w (Aa i) (Ls i)) (hN : (preL Ls 3).length ≤ 300) (hg : g < w.heap.size) (hc : ∀ i, i < 3 → w.cell? ⟨g, i, none⟩ = some (.slice (Aa i) (Ls i).length (cc i))) :
    Calls Tryz.prog 39 #[.slice (some ⟨g, 0, none⟩) 3 3] w fun e w' => ∃ (A : Option Addr) (N cap : Nat), e = .returned (.slice A N cap) ∧ N = (preL Ls 3).length ∧ FndIn w' A (preL Ls 3) ∧ Below w.heap.size w w' := by
  have HL := Lib.hid hL
  have HC := Lib.hid hc
  obtain ⟨N, hNN⟩ : ∃ N, N = (preL Ls 3).length := ⟨_, rfl⟩
  have HN := Lib.hid hNN
  have H300 : Hid (N ≤ 300) := by show N ≤ 300; omega
  have HPL : Hid (∀ i, i < 3 → (preL Ls i).length + (Ls i).length ≤ N) := fun i hi => pre_len hNN.symm hi
  have SG := Lib.hid fun w => fgrow N (by omega) w
  clear hL hc hNN hN
  go_enter Tryz.func39, Tryz.ntmps39
  go_wp2_with fail
  go_loop [3, 11] (fun u v => ∃ i S : Nat, Hid (i ≤ 3) ∧ Hid (S = (preL Ls i).length) ∧ u = .int .i64 S ∧ v = .int .i64 i) (fun _ v => 3 - (intOf v).toNat)
  case atStart => exact ⟨0, 0, by show 0 ≤ 3; omega, rfl, rfl, rfl⟩
  case round =>
    obtain ⟨i, S, Hi, HS, rfl, rfl⟩ := hrel
    by_cases hlt : i < 3
    · have T0 : decide ((i : Int) < 3) = true := decide_eq_true (by omega)
      have T0' : decide (i < 3) = true := decide_eq_true hlt
      obtain ⟨i', hi'⟩ : ∃ z, z = i + 1 := ⟨_, rfl⟩
      have x0 : IntKind.i64.wrap ((i : Int) + 1) = (i' : Int) := by rw [IntKind.wrap_i64]; omega
      have HI' : Hid (i' ≤ 3) := by show i' ≤ 3; omega
      have HMS : Hid (3 - (intOf (Value.int .i64 (i' : Int))).toNat < 3 - (intOf (Value.int .i64 (i : Int))).toNat) := by show _ < _; simp [intOf]; omega
      have k0 : (0 : Int) ≤ (i : Int) := by omega
      have k1 : (i : Int) < 3 := by omega
      have c0 := HC.out i hlt
      have hpl := HPL.out i hlt
      obtain ⟨m, hm⟩ : ∃ z, z = (Ls i).length := ⟨_, rfl⟩
      obtain ⟨S', hS'⟩ : ∃ z : Nat, z = S + m := ⟨_, rfl⟩
      rw [← hm] at c0 hpl
      rw [← HS.out] at hpl
      have x1 : IntKind.i64.wrap ((S : Int) + (m : Int)) = (S' : Int) := by have := H300.out; rw [IntKind.wrap_i64]; omega
      have HS' : Hid (S' = (preL Ls i').length) := by show _ = _; rw [hi', hS', HS.out, hm]; simp [preL]
      have t1 : decide ((S' : Int) < 0) = false := decide_eq_false (by omega)
      clear hi' hlt hm hpl hS'
      go_wp2_with fail
      go_round
      case rel => exact ⟨i', S', HI', HS', rfl, rfl⟩
      case measure => exact HMS.out
    · have hin : i = 3 := by have := Hi.out; omega
      subst hin
      obtain rfl : S = N := HS.out.trans HN.out.symm
      clear hlt
      obtain ⟨SI0, si0, sz0, sz1, sz2⟩ := info_parts1 infoF
      have SI1 := Lib.hid si0
      have SI2 := Lib.hid sz0
      have SI3 := Lib.hid sz1
      have SI4 := Lib.hid sz2
      clear si0 sz0 sz1 sz2
      go_wp2_with (first
        | (go_at_call 59
           with_reducible refine (SG.out _).mono ?_
           rintro e w1 ⟨C, rfl, hown⟩
           have HOW := Lib.hid hown
           clear hown))
      go_loopw [6, 27] (fun u v wr => ∃ i K : Nat, Hid (i ≤ 3) ∧ v = .int .i64 i ∧ Hid (RMem w wr u K (preL Ls i))) (fun _ v _ => 3 - (intOf v).toNat)
      case atStart => exact ⟨0, 0, by show 0 ≤ 3; omega, rfl, HOW.out⟩
      case round =>
        obtain ⟨i, K, Hi2, rfl, HM⟩ := hrel
        obtain ⟨A8, cap8, h8, hkc⟩ := HM.out.form
        subst h8
        by_cases hlt : i < 3
        · have T0 : decide ((i : Int) < 3) = true := decide_eq_true (by omega)
          have T0' : decide (i < 3) = true := decide_eq_true hlt
          obtain ⟨i', hi'⟩ : ∃ z, z = i + 1 := ⟨_, rfl⟩
          have x0 : IntKind.i64.wrap ((i : Int) + 1) = (i' : Int) := by rw [IntKind.wrap_i64]; omega
          have HI' : Hid (i' ≤ 3) := by show i' ≤ 3; omega
          have HMS : Hid (3 - (intOf (Value.int .i64 (i' : Int))).toNat < 3 - (intOf (Value.int .i64 (i : Int))).toNat) := by show _ < _; simp [intOf]; omega
          have k0 : (0 : Int) ≤ (i : Int) := by omega
          have k1 : (i : Int) < 3 := by omega
          have c0 := (HM.out.2.2.cell (p := ⟨g, i, none⟩) hg).trans (HC.out i hlt)
          have hpl := HPL.out i hlt
          have hFI := (HL.out i hlt).below (Nat.le_refl _) HM.out.2.2
          have HPR : Hid (preL Ls i' = preL Ls i ++ Ls i) := by show _ = _; rw [hi']; rfl
          obtain ⟨Li, hLi⟩ : ∃ z, z = Ls i := ⟨_, rfl⟩
          obtain ⟨Ai, hAi⟩ : ∃ z, z = Aa i := ⟨_, rfl⟩
          obtain ⟨ci, hci⟩ : ∃ z, z = cc i := ⟨_, rfl⟩
          rw [← hLi] at c0 hpl hFI HPR
          rw [← hAi] at c0 hFI
          rw [← hci] at c0
          have HK300 : Hid (K ≤ 300) := by show K ≤ 300; have h1 := HM.out.2.1; have h2 := H300.out; omega
          have HM300 : Hid (Li.length ≤ 300) := by show _ ≤ 300; have h2 := H300.out; omega
          rcases hFI.2 with ⟨rfl, rfl⟩ | ⟨b, off, rfl, ht, _⟩
          · have HM2 : Hid (RMem w wr (.slice A8 K cap8) K (preL Ls i')) := by show RMem _ _ _ _ _; rw [HPR.out, List.append_nil]; exact HM.out
            have hsrc := Lib.hid (fun (ty : TypeId) => run_append_nothing (P := Tryz.prog) wr 40 40 ty 48 SI0 Tryz.underlying40 SI1.out A8 K cap8 hkc (.slice none 0 ci) (Src.ofNil _ Tryz.underlying40 ci))
            have c0' : wr.cell? ⟨g, i, none⟩ = some (.slice none 0 ci) := c0
            clear hi' hlt hpl hFI hLi hAi hci c0
            go_wp2_with (first
              | (at_builtin; refine Lib.wpList_append_run _ rfl _ _ _ _ rfl _ _ rfl rfl _ _ (hsrc.out _) ?_))
            go_roundw
            case rel => exact ⟨i', K, HI', rfl, HM2⟩
            case measure => exact HMS.out
          · have HLn : Hid (fc (preL Ls i') = fc (preL Ls i) ++ fc Li) := by show _ = _; rw [HPR.out, fc_append]
            have HLl : Hid (K + Li.length = (preL Ls i').length) := by show _ = _; rw [HPR.out, List.length_append, ← HM.out.2.1]
            obtain ⟨m, hm⟩ : ∃ z, z = Li.length := ⟨_, rfl⟩
            have HLL := Lib.hid hm
            rw [← hm] at c0 HM300
            have HTT := Lib.hid ht
            clear hi' hlt hpl hFI hLi hAi hci hm ht
            go_wp2_with (first
              | (at_builtin; refine wpList_append_own_at _ ?g1 (.tmp 31) (.tmp 32) 40 ?g2 (w.heap.size) 48 SI0 (.agg #[.int .i64 0, .string ByteArray.empty]) 2 24 Tryz.underlying40 SI1.out SI2.out SI3.out SI4.out ?g3 ?g4 (.slice A8 K cap8) (K) (fc (preL Ls i)) ?g5 (HM.out.1) (⟨b, off, none⟩) (m) (ci) (fc Li) ?g7 (by rw [fc_len, ← HLL.out]) (fnd_news HTT.out) (fc_cells _) (h63_f HK300.out HM300.out) (hby_f HK300.out HM300.out) (HM.out.2.2.size) ?g14
                 case g1 => exact rfl
                 case g2 => exact rfl
                 case g3 => exact rfl
                 case g4 => decide
                 case g5 => exact rfl
                 case g7 => exact rfl
                 intro v2 w4 hown2 hgrow2 hnil2 hat2
                 have HM2 : Hid (RMem w w4 v2 (K + m) (preL Ls i')) := ⟨by rw [HLn.out]; exact hown2, by rw [HLL.out]; exact HLl.out, own_grown_below HM.out.1 HM.out.2.2 hgrow2⟩
                 clear hown2 hgrow2 hnil2 hat2))
            go_roundw
            case rel => exact ⟨i', K + m, HI', rfl, HM2⟩
            case measure => exact HMS.out
        · have hin : i = 3 := by have := Hi2.out; omega
          have T0 : decide ((i : Int) < 3) = false := decide_eq_false (by omega)
          have T0' : decide (i < 3) = false := decide_eq_false hlt
          have HM2 : Hid (RMem w wr (.slice A8 K cap8) K (preL Ls 3)) := by show RMem _ _ _ _ _; rw [← hin]; exact HM.out
          have HK300 : Hid (K ≤ 300) := by show K ≤ 300; have h1 := HM2.out.2.1; have h2 := H300.out; have h3 := HN.out; omega
          clear hlt hin
          go_wp2_with fail
          go_ret
          exact ⟨A8, K, cap8, rfl, HM2.out.2.1, HM2.out.fnd HK300.out, HM2.out.2.2⟩
end Go.Proofs.YtigocjhmgmhocaaGreatDoor

/- Merged texts of these proofs: Kl, GrowK, Concat, Reach, ReachT, CutT. -/
import Derived.Test.YtapfmbnppeonkaaGreatDoorMgA
import Derived.Lib.AppendZerosOnto
import Derived.Lib.AppendZeros
import Derived.Lib.SliceRun
import Derived.Lib.Walk
import Derived.Test.YtapfmbnppeonkaaGreatDoorWideTwo
import Derived.StillTailTactics
import Derived.Test.YtapfmbnppeonkaaGreatDoorMgC
namespace Go.Proofs.YtapfmbnppeonkaaGreatDoor
open Go.RowKit
set_option linter.unusedVariables false
set_option linter.unusedSimpArgs false

def kc (L : List (Int × Int)) : List Value := L.flatMap fun p => [.int .i64 p.1, .int .i64 p.2]
def kX (L : List (Int × Int)) (k : Nat) : Int := (L.getD k (0, 0)).1
def kY (L : List (Int × Int)) (k : Nat) : Int := (L.getD k (0, 0)).2
theorem kc_append (L M : List (Int × Int)) : kc (L ++ M) = kc L ++ kc M := by unfold kc; rw [List.flatMap_append]
theorem kc_one (x y : Int) : kc [(x, y)] = [.int .i64 x, .int .i64 y] := rfl
theorem kc_len (L : List (Int × Int)) : (kc L).length = L.length * 2 := by
  induction L with
  | nil => rfl
  | cons p L ih => show (kc ([p] ++ L)).length = _; rw [kc_append, List.length_append, ih]; simp [kc]; omega
theorem kc_at (L : List (Int × Int)) (k : Nat) (h : k < L.length) : (kc L)[k * 2]? = some (.int .i64 (kX L k)) ∧ (kc L)[k * 2 + 1]? = some (.int .i64 (kY L k)) := by
  induction L generalizing k with
  | nil => simp at h
  | cons p L ih =>
    cases k with
    | zero => exact ⟨rfl, rfl⟩
    | succ k =>
      have := ih k (by simp at h; omega)
      have e1 : (k + 1) * 2 = k * 2 + 1 + 1 := by omega
      rw [e1]
      exact this
theorem tab_of_kc {w : World} {base g cap : Nat} {t : TypeId} {L : List (Int × Int)} (h : w.ownsRow base t 2 (.slice (some ⟨g, 0, none⟩) L.length cap) L.length (kc L)) : TabAt w g 0 L.length (kX L) (kY L) := by
  refine ⟨(h.lt g rfl).2, fun k hk => ?_⟩
  obtain ⟨h1, h2⟩ := kc_at L k hk
  rw [Nat.zero_add]
  exact ⟨(h.cellAt (k * 2) (by omega)).trans h1, (h.cellAt (k * 2 + 1) (by omega)).trans h2⟩
theorem h63_le {n : Nat} (h : n ≤ 300) : n + 1 ≤ maxLen := by simp only [maxLen]; omega
theorem hby_le {n : Nat} (h : n ≤ 300) : (n + 1) * 16 ≤ 140737488355328 := by omega
end Go.Proofs.YtapfmbnppeonkaaGreatDoor

namespace Go.Proofs.YtapfmbnppeonkaaGreatDoor
open Go.RowKit
set_option linter.unusedVariables false
set_option linter.unusedSimpArgs false

set_option maxHeartbeats 2000000 in
set_option maxRecDepth 100000 in
theorem cgrow (n : Nat) (h0 : 0 < n) (h1 : n ≤ 300) (w : World) :
    Calls Tryz.prog 60 #[.slice none 0 0, .int .i64 (n : Int)] w fun e w' => ∃ C : Nat, e = .returned (.slice (some ⟨w.heap.size, 0, none⟩) 0 C) ∧ w'.ownsRow w.heap.size 49 2 (.slice (some ⟨w.heap.size, 0, none⟩) 0 C) 0 [] ∧ Below w.heap.size w w' := by
  obtain ⟨i0, hi0, hz0, hs0, hby⟩ := info_parts1 info39
  have hold : (Builtin.firstCells i0.size 0 (.slice none 0 0)).run Tryz.prog w.drew = .ok (#[] : Array Value) w.drew := run_firstCells_none w.drew i0.size 0 0 0
  have hge := grownCap_ge w n 0 49
  have hle := grownCap_le_maxLen w n 0 49 (by unfold maxLen; omega)
  have hr : ∀ ty, (Builtin.append_ #[23, 3] ty #[.slice none 0 0, .int .i64 (n : Int)]).run Tryz.prog w =
      .ok (.slice (some ⟨w.heap.size, 0, none⟩) n (grownCap w n 0 49)) (w.drew.alloc (.cells (#[] ++ Builtin.zeroCells (Value.agg #[.int .i64 0, .int .i64 0]).cells n ++ Builtin.zeroCells (Value.agg #[.int .i64 0, .int .i64 0]).cells (grownCap w n 0 49 - n)) 49)) := fun ty => by
    have h := Lib.run_append_grow_zeros w 23 3 ty 49 i0 (.agg #[.int .i64 0, .int .i64 0]) .i64 .i64 Tryz.underlying23 Tryz.underlying3 hi0 hz0 none 0 0 [] hold n h0 (by omega) (by omega) (by omega) (by rw [hby]; omega) (growslice_fits (by omega) (by rw [hby]; omega))
    rw [Nat.zero_add] at h
    exact h
  obtain ⟨C, hC⟩ : ∃ C, C = grownCap w n 0 49 := ⟨_, rfl⟩
  rw [← hC] at hr hge hle
  have HO : Hid (∀ u, u = (w.drew.alloc (.cells (#[] ++ Builtin.zeroCells (Value.agg #[.int .i64 0, .int .i64 0]).cells n ++ Builtin.zeroCells (Value.agg #[.int .i64 0, .int .i64 0]).cells (C - n)) 49)) → u.ownsRow w.heap.size 49 2 (.slice (some ⟨w.heap.size, 0, none⟩) 0 C) 0 [] ∧ Below w.heap.size w u) := by
    rintro u rfl
    refine ⟨⟨rfl, .inr ⟨w.heap.size, C, _, rfl, Nat.le_refl _, heap_alloc_new w.drew _, Nat.zero_le _, hle, ?_, rfl⟩⟩, (Below.refl _ w).drew.alloc (Nat.le_refl _) _⟩
    simp only [Array.size_append, size_zeroCells]
    have : (Value.agg #[.int .i64 0, .int .i64 0]).cells.size = 2 := rfl
    rw [this]
    simp
    omega
  have h2 : wrap64 ((n : Int) - 0) = (n : Int) := by unfold wrap64; omega
  have h3 : IntKind.i64.wrap ((n : Int) - 0) = (n : Int) := by rw [IntKind.wrap_i64]; omega
  have h3' : IntKind.i64.wrap (n : Int) = (n : Int) := by rw [IntKind.wrap_i64]; omega
  have h4 : decide ((0 : Int) < (n : Int)) = true := by simp; omega
  have h5 : decide (0 < n) = true := decide_eq_true h0
  have h6 : decide ((n : Int) < 0) = false := by simp
  have HL := Lib.hid hle
  have hr2 := Lib.hid hr
  have hC0 : (0 : Int) ≤ (C : Int) := by omega
  clear hold hge hle hC hr h0 h1
  go_enter Tryz.func60, Tryz.ntmps60
  go_wp2_with (at_builtin; refine Lib.wpList_append_run _ rfl _ _ _ _ rfl _ _ rfl rfl _ _ (hr2.out _) ?_)
  go_ret
  exact ⟨C, rfl, HO.out _ (by simp; rfl)⟩
end Go.Proofs.YtapfmbnppeonkaaGreatDoor

namespace Go.Proofs.YtapfmbnppeonkaaGreatDoor
open Go.RowKit
set_option linter.unusedVariables false
set_option linter.unusedSimpArgs false

/-- The knots of a table. -/
def tl (n : Nat) (X Y : Nat → Int) : List (Int × Int) := (List.range n).map fun k => (X k, Y k)
theorem tl_len (n : Nat) (X Y : Nat → Int) : (tl n X Y).length = n := by simp [tl]
theorem tl_at {n k : Nat} {X Y : Nat → Int} (h : k < n) : kX (tl n X Y) k = X k ∧ kY (tl n X Y) k = Y k := by
  unfold kX kY tl
  simp [List.getD, h]
theorem addr_add (b off j : Nat) : (⟨b, off, none⟩ : Addr).add j = ⟨b, off + j, none⟩ := by
  unfold Addr.add
  by_cases h : j = 0
  · subst h; rfl
  · simp [h]
theorem tab_news {w : World} {b off n : Nat} {X Y : Nat → Int} (ht : TabAt w b off n X Y) : ∀ j u, (kc (tl n X Y))[j]? = some u → w.cell? ((⟨b, off, none⟩ : Addr).add j) = some u := by
  intro j u hj
  have hlen : j < (kc (tl n X Y)).length := by
    rcases Nat.lt_or_ge j (kc (tl n X Y)).length with h | h
    · exact h
    · rw [List.getElem?_eq_none h] at hj; cases hj
  rw [kc_len, tl_len] at hlen
  have hk : j / 2 < n := by omega
  obtain ⟨h1, h2⟩ := kc_at (tl n X Y) (j / 2) (by rw [tl_len]; exact hk)
  obtain ⟨e1, e2⟩ := tl_at (X := X) (Y := Y) hk
  rw [e1] at h1
  rw [e2] at h2
  have hT := ht.2 (j / 2) hk
  by_cases hp : j % 2 = 0
  · have e : j = j / 2 * 2 := by omega
    rw [← e] at h1 hT
    rw [hj] at h1
    rw [Option.some.inj h1]
    rw [addr_add]; exact hT.1
  · have e : j = j / 2 * 2 + 1 := by omega
    have e' : off + j / 2 * 2 + 1 = off + j := by omega
    rw [← e] at h2
    rw [e'] at hT
    rw [hj] at h2
    rw [Option.some.inj h2]
    rw [addr_add]; exact hT.2
theorem kc_cells (L : List (Int × Int)) : ∀ u ∈ kc L, u.oneCell' = true := by
  intro u hu
  unfold kc at hu
  rw [List.mem_flatMap] at hu
  obtain ⟨p, _, hu⟩ := hu
  simp at hu
  rcases hu with rfl | rfl <;> rfl
theorem h63_add {a b : Nat} (ha : a ≤ 300) (hb : b ≤ 300) : a + b ≤ maxLen := by simp only [maxLen]; omega
theorem hby_add {a b : Nat} (ha : a ≤ 300) (hb : b ≤ 300) : (a + b) * 16 ≤ 140737488355328 := by omega
theorem below_app {w wr w' : World} {e : TypeId} {g cap K : Nat} {xs : List Value} (h : wr.ownsRow w.heap.size e 2 (.slice (some ⟨g, 0, none⟩) K cap) K xs) (hb : Below w.heap.size w wr) (hg : wr.grownBy w' (Value.slice (some ⟨g, 0, none⟩) K cap).ownBlock) : Below w.heap.size w w' := by
  refine ⟨hg.os.trans hb.os, hg.tape.trans hb.tape, hg.output.trans hb.output, Nat.le_trans hb.size hg.size, fun k hk => ?_⟩
  have hgge : w.heap.size ≤ g := (h.lt g rfl).1
  refine (hg.block k (Nat.lt_of_lt_of_le hk hb.size) ?_).trans (hb.block k hk)
  intro e
  simp [Value.ownBlock] at e
  omega

/-- What Concat answers. -/
def CatPost (w : World) (na nb : Nat) (XA YA XB YB : Nat → Int) (e : Ending) (w' : World) : Prop := ∃ h cap N : Nat, N = na + nb ∧ e = .returned (.slice (some ⟨h, 0, none⟩) N cap) ∧ w.heap.size ≤ h ∧ TabAt w' h 0 N (kX (tl na XA YA ++ tl nb XB YB)) (kY (tl na XA YA ++ tl nb XB YB)) ∧ Below w.heap.size w w'
set_option maxRecDepth 100000 in
set_option maxHeartbeats 4000000 in
theorem cconcat (g ba oa na ca bb ob nb cb : Nat) (XA YA XB YB : Nat → Int) (w : World) (hA : TabAt w ba oa na XA YA) (hB : TabAt w bb ob nb XB YB) (h1 : 1 ≤ na) (h2 : na ≤ 100) (h3 : 1 ≤ nb) (h4 : nb ≤ 100)
    (hg : g < w.heap.size) (c0 : w.cell? ⟨g, 0, none⟩ = some (.slice (some ⟨ba, oa, none⟩) na ca)) (c1 : w.cell? ⟨g, 1, none⟩ = some (.slice (some ⟨bb, ob, none⟩) nb cb)) :
    Calls Tryz.prog 37 #[.slice (some ⟨g, 0, none⟩) 2 2] w (CatPost w na nb XA YA XB YB) := by
  obtain ⟨N, hN⟩ : ∃ N, N = na + nb := ⟨_, rfl⟩
  have HN := Lib.hid hN
  have SG := Lib.hid fun w => cgrow N (by omega) (by omega) w
  have HA := Lib.hid hA
  have HB := Lib.hid hB
  have H2 : Hid (na ≤ 300) := by show na ≤ 300; omega
  have H4 : Hid (nb ≤ 300) := by show nb ≤ 300; omega
  have H1 : Hid (0 < na) := h1
  have H3 : Hid (0 < nb) := h3
  have HC0 := Lib.hid c0
  have HC1 := Lib.hid c1
  have a1 : IntKind.i64.wrap (na : Int) = (na : Int) := by rw [IntKind.wrap_i64]; omega
  have a2 : IntKind.i64.wrap ((na : Int) + (nb : Int)) = (N : Int) := by rw [IntKind.wrap_i64]; omega
  have hba := hA.1
  have hbb := hB.1
  clear h1 h2 h3 h4 hN hA hB
  go_enter Tryz.func37, Tryz.ntmps37
  go_wp2_with fail
  go_loop [3, 11] (fun u v => (u = .int .i64 0 ∧ v = .int .i64 0) ∨ (u = .int .i64 na ∧ v = .int .i64 1) ∨ (u = .int .i64 N ∧ v = .int .i64 2)) (fun _ v => 2 - (intOf v).toNat)
  case atStart => exact .inl ⟨rfl, rfl⟩
  case round =>
    rcases hrel with ⟨rfl, rfl⟩ | ⟨rfl, rfl⟩ | ⟨rfl, rfl⟩
    · go_wp2_with fail
      go_round
      case rel => exact .inr (.inl ⟨rfl, rfl⟩)
      case measure => simp [intOf]
    · go_wp2_with fail
      go_round
      case rel => exact .inr (.inr ⟨rfl, rfl⟩)
      case measure => simp [intOf]
    · go_wp2_with (first | (go_at_call 60; (with_reducible refine (SG.out _).mono ?_); rintro e w1 ⟨C, rfl, hown, hb1⟩))
      have HOW := Lib.hid hown
      have HBW := Lib.hid hb1
      obtain ⟨i0, hi0, hz0, hz1, hz2⟩ := info_parts1 info39
      have HI0 := Lib.hid hi0
      have HZ0 := Lib.hid hz0
      have HZ1 := Lib.hid hz1
      have HZ2 := Lib.hid hz2
      clear hi0 hz0 hz1 hz2 hown hb1 c0 c1
      go_loopw [6, 27] (fun u v wr => ∃ i h C K : Nat, ∃ xs : List Value, Hid ((i = 0 ∧ 0 = K ∧ [] = xs) ∨ (i = 1 ∧ na = K ∧ kc (tl na XA YA) = xs) ∨ (i = 2 ∧ N = K ∧ kc (tl na XA YA) ++ kc (tl nb XB YB) = xs)) ∧ u = .slice (some ⟨h, 0, none⟩) K C ∧ v = .int .i64 i ∧ Hid (wr.ownsRow w.heap.size 49 2 (.slice (some ⟨h, 0, none⟩) K C) K xs ∧ Below w.heap.size w wr)) (fun _ v _ => 2 - (intOf v).toNat)
      case atStart => exact ⟨0, _, C, 0, [], .inl ⟨rfl, rfl, rfl⟩, rfl, rfl, ⟨HOW.out, HBW.out⟩⟩
      case round =>
        obtain ⟨i, h, C, K, xs, Hi, rfl, rfl, HM⟩ := hrel
        have c0 := (HM.out.2.cell (p := ⟨g, 0, none⟩) hg).trans HC0.out
        have c1 := (HM.out.2.cell (p := ⟨g, 1, none⟩) hg).trans HC1.out
        rcases Hi.out with ⟨rfl, rfl, rfl⟩ | ⟨rfl, rfl, rfl⟩ | ⟨rfl, rfl, rfl⟩
        · go_wp2_with (first
            | (at_builtin; refine wpList_append_own_at _ ?g1 (.tmp 31) (.tmp 32) 23 ?g2 (w.heap.size) 49 i0 (.agg #[.int .i64 0, .int .i64 0]) 2 16 Tryz.underlying23 HI0.out HZ0.out HZ1.out HZ2.out ?g3 ?g4 (.slice (some ⟨h, 0, none⟩) 0 C) (0) ([]) ?g5 (HM.out.1) (⟨ba, oa, none⟩) (na) (ca) (kc (tl na XA YA)) ?g7 (by rw [kc_len, tl_len]) (tab_news (HA.out.below HM.out.2 hba)) (kc_cells _) (h63_add (Nat.zero_le _) H2.out) (hby_add (Nat.zero_le _) H2.out) (HM.out.2.size) ?g14
               case g1 => exact rfl
               case g2 => exact rfl
               case g3 => exact rfl
               case g4 => decide
               case g5 => exact rfl
               case g7 => exact rfl
               intro v2 w4 hown2 hgrow2 hnil2 hat2
               obtain ⟨g2, cap2, rfl, hb2, hl2⟩ := hown2.form (Nat.lt_of_lt_of_le H1.out (Nat.le_add_left _ _))
               have HM2 := Lib.hid (And.intro hown2 (below_app HM.out.1 HM.out.2 hgrow2))
               rw [Nat.zero_add, List.nil_append] at HM2
               rw [Nat.zero_add]
               clear hown2 hgrow2 hnil2 hat2))
          go_roundw
          case rel => exact ⟨1, g2, cap2, na, _, .inr (.inl ⟨rfl, rfl, rfl⟩), rfl, rfl, HM2⟩
          case measure => simp [intOf]
        · go_wp2_with (first
            | (at_builtin; refine wpList_append_own_at _ ?k1 (.tmp 31) (.tmp 32) 23 ?k2 (w.heap.size) 49 i0 (.agg #[.int .i64 0, .int .i64 0]) 2 16 Tryz.underlying23 HI0.out HZ0.out HZ1.out HZ2.out ?k3 ?k4 (.slice (some ⟨h, 0, none⟩) na C) (na) (kc (tl na XA YA)) ?k5 (HM.out.1) (⟨bb, ob, none⟩) (nb) (cb) (kc (tl nb XB YB)) ?k7 (by rw [kc_len, tl_len]) (tab_news (HB.out.below HM.out.2 hbb)) (kc_cells _) (h63_add H2.out H4.out) (hby_add H2.out H4.out) (HM.out.2.size) ?k14
               case k1 => exact rfl
               case k2 => exact rfl
               case k3 => exact rfl
               case k4 => decide
               case k5 => exact rfl
               case k7 => exact rfl
               intro v2 w4 hown2 hgrow2 hnil2 hat2
               obtain ⟨g2, cap2, rfl, hb2, hl2⟩ := hown2.form (Nat.lt_of_lt_of_le H3.out (Nat.le_add_left _ _))
               have HM2 := Lib.hid (And.intro hown2 (below_app HM.out.1 HM.out.2 hgrow2))
               rw [← HN.out] at HM2 ⊢
               clear hown2 hgrow2 hnil2 hat2))
          go_roundw
          case rel => exact ⟨2, g2, cap2, N, _, .inr (.inr ⟨rfl, rfl, rfl⟩), rfl, rfl, HM2⟩
          case measure => simp [intOf]
        · go_wp2_with fail
          go_ret
          have hlen : (tl na XA YA ++ tl nb XB YB).length = N := by rw [List.length_append, tl_len, tl_len]; exact HN.out.symm
          have hT := HM.out.1
          rw [← kc_append, ← hlen] at hT
          have hT2 := tab_of_kc hT
          rw [hlen] at hT2
          exact ⟨h, C, N, HN.out, rfl, (HM.out.1.lt h rfl).1, hT2, HM.out.2⟩
end Go.Proofs.YtapfmbnppeonkaaGreatDoor

namespace Go.Proofs.YtapfmbnppeonkaaGreatDoor
open Go.RowKit
set_option linter.unusedVariables false
set_option linter.unusedSimpArgs false

/-- The order of two integers as a sign. -/
def sg3 (x y : Int) : Int := if x < y then -1 else if y < x then 1 else 0
theorem inan (x : Int) (w : World) : Calls Tryz.prog 121 #[.int .i64 x] w fun e w' => e = .returned (.bool false) ∧ w = w' := by
  go_enter Tryz.func121, Tryz.ntmps121
  go_wp2_with fail
  go_ret
  exact ⟨by simp, rfl⟩
theorem icmp (x y : Int) (w : World) : Calls Tryz.prog 98 #[.int .i64 x, .int .i64 y] w fun e w' => e = .returned (.int .i64 (sg3 x y)) ∧ w = w' := by
  have S1 := Lib.hid fun w => inan x w
  have S2 := Lib.hid fun w => inan y w
  by_cases h1 : x < y
  · have T := decide_eq_true h1
    have e : sg3 x y = -1 := if_pos h1
    rw [e]
    clear h1 e
    go_enter Tryz.func98, Tryz.ntmps98
    go_wp2_with (first | (go_at_call 121; (with_reducible refine (S1.out _).mono ?_); rintro e w' ⟨rfl, rfl⟩) | (go_at_call 121; (with_reducible refine (S2.out _).mono ?_); rintro e w' ⟨rfl, rfl⟩))
    go_ret
    exact ⟨rfl, rfl⟩
  · have T := decide_eq_false h1
    by_cases h2 : y < x
    · have T2 := decide_eq_true h2
      have e : sg3 x y = 1 := (if_neg h1).trans (if_pos h2)
      rw [e]
      clear h1 h2 e
      go_enter Tryz.func98, Tryz.ntmps98
      go_wp2_with (first | (go_at_call 121; (with_reducible refine (S1.out _).mono ?_); rintro e w' ⟨rfl, rfl⟩) | (go_at_call 121; (with_reducible refine (S2.out _).mono ?_); rintro e w' ⟨rfl, rfl⟩))
      go_ret
      exact ⟨rfl, rfl⟩
    · have T2 := decide_eq_false h2
      have e : sg3 x y = 0 := (if_neg h1).trans (if_neg h2)
      rw [e]
      clear h1 h2 e
      go_enter Tryz.func98, Tryz.ntmps98
      go_wp2_with (first | (go_at_call 121; (with_reducible refine (S1.out _).mono ?_); rintro e w' ⟨rfl, rfl⟩) | (go_at_call 121; (with_reducible refine (S2.out _).mono ?_); rintro e w' ⟨rfl, rfl⟩))
      go_ret
      exact ⟨rfl, rfl⟩
theorem ior (a b : Int) (g : Nat) (w : World) (h0 : w.cell? ⟨g, 0, none⟩ = some (.int .i64 a)) (h1 : w.cell? ⟨g, 1, none⟩ = some (.int .i64 b)) :
    Calls Tryz.prog 97 #[.slice (some ⟨g, 0, none⟩) 2 2] w fun e w' => e = .returned (.int .i64 (if a = 0 then b else a)) ∧ w = w' := by
  obtain ⟨r, hr⟩ : ∃ r, r = if a = 0 then b else a := ⟨_, rfl⟩
  rw [← hr]
  have HR := Lib.hid hr
  clear hr
  go_enter Tryz.func97, Tryz.ntmps97
  go_wp2_with fail
  go_loop [8] (fun u => u = .int .i64 0 ∨ (Hid (a = 0) ∧ u = .int .i64 1) ∨ (Hid (a = 0 ∧ b = 0) ∧ u = .int .i64 2)) (fun u => 2 - (intOf u).toNat)
  case atStart => exact .inl rfl
  case round =>
    rcases hrel with rfl | ⟨Ha, rfl⟩ | ⟨Ha, rfl⟩
    · by_cases ha : a = 0
      · have HA := Lib.hid ha
        have t1 : (a == 0) = true := by simp [ha]
        have t2 : decide (a = 0) = true := decide_eq_true ha
        clear ha
        go_wp2_with fail
        go_round
        case rel => exact .inr (.inl ⟨HA, rfl⟩)
        case measure => simp [intOf]
      · have HA := Lib.hid ha
        have t1 : (a == 0) = false := by simp [ha]
        have t2 : decide (a = 0) = false := decide_eq_false ha
        clear ha
        go_wp2_with fail
        go_ret
        exact ⟨ret_int (by rw [HR.out, if_neg HA.out]), rfl⟩
    · by_cases hb : b = 0
      · have HB := Lib.hid hb
        have t1 : (b == 0) = true := by simp [hb]
        have t2 : decide (b = 0) = true := decide_eq_true hb
        clear hb
        go_wp2_with fail
        go_round
        case rel => exact .inr (.inr ⟨⟨Ha.out, HB.out⟩, rfl⟩)
        case measure => simp [intOf]
      · have t1 : (b == 0) = false := by simp [hb]
        have t2 : decide (b = 0) = false := decide_eq_false hb
        clear hb
        go_wp2_with fail
        go_ret
        exact ⟨ret_int (by rw [HR.out, if_pos Ha.out]), rfl⟩
    · go_wp2_with fail
      go_ret
      exact ⟨ret_int (by rw [HR.out, if_pos Ha.out.1, Ha.out.2]), rfl⟩

theorem cmp_parts (x y : Nat) : 0 ≤ (if sg3 (hiW x) (hiW y) = 0 then sg3 (loW x) (loW y) else sg3 (hiW x) (hiW y)) ↔ y ≤ x := by
  have ex : (x : Int) = hiW x * 1152921504606846976 + loW x ∧ 0 ≤ loW x ∧ loW x < 1152921504606846976 := by unfold hiW loW; omega
  have ey : (y : Int) = hiW y * 1152921504606846976 + loW y ∧ 0 ≤ loW y ∧ loW y < 1152921504606846976 := by unfold hiW loW; omega
  generalize hiW x = a at *
  generalize loW x = b at *
  generalize hiW y = c at *
  generalize loW y = d at *
  unfold sg3
  by_cases h1 : a < c
  · rw [if_pos h1, if_neg (by decide)]; constructor <;> intro h <;> omega
  · by_cases h2 : c < a
    · rw [if_neg h1, if_pos h2, if_neg (by decide)]; constructor <;> intro h <;> omega
    · rw [if_neg h1, if_neg h2, if_pos rfl]
      by_cases h3 : b < d
      · rw [if_pos h3]; constructor <;> intro h <;> omega
      · rw [if_neg h3]
        by_cases h4 : d < b
        · rw [if_pos h4]; constructor <;> intro h <;> omega
        · rw [if_neg h4]; constructor <;> intro h <;> omega
set_option maxRecDepth 100000 in
set_option maxHeartbeats 2000000 in
theorem wcmp (x y : Nat) (hx : x < 1329227995784915872903807060280344576) (hy : y < 1329227995784915872903807060280344576) : ∃ c : Int, (0 ≤ c ↔ y ≤ x) ∧ ∀ w, Calls Tryz.prog 63 #[.agg #[.int .i64 (hiW x), .int .i64 (loW x)], .agg #[.int .i64 (hiW y), .int .i64 (loW y)]] w fun e w' => e = .returned (.tuple #[.int .i64 c, .int .i64 0]) ∧ Below w.heap.size w w' := by
  refine ⟨_, cmp_parts x y, fun w => ?_⟩
  have V1 := Lib.hid fun w => wvalid x hx w
  have V2 := Lib.hid fun w => wvalid y hy w
  obtain ⟨a, ha⟩ : ∃ a, a = sg3 (hiW x) (hiW y) := ⟨_, rfl⟩
  obtain ⟨b, hb⟩ : ∃ b, b = sg3 (loW x) (loW y) := ⟨_, rfl⟩
  have C1 := Lib.hid fun w => icmp (hiW x) (hiW y) w
  have C2 := Lib.hid fun w => icmp (loW x) (loW y) w
  rw [← ha] at C1
  rw [← hb] at C2
  rw [← ha, ← hb]
  have C3 := Lib.hid fun g w h0 h1 => ior a b g w h0 h1
  obtain ⟨r, hr⟩ : ∃ r, r = if a = 0 then b else a := ⟨_, rfl⟩
  rw [← hr] at C3 ⊢
  obtain ⟨p1, hp1⟩ : ∃ z, z = hiW x := ⟨_, rfl⟩
  obtain ⟨p0, hp0⟩ : ∃ z, z = loW x := ⟨_, rfl⟩
  obtain ⟨q1, hq1⟩ : ∃ z, z = hiW y := ⟨_, rfl⟩
  obtain ⟨q0, hq0⟩ : ∃ z, z = loW y := ⟨_, rfl⟩
  rw [← hp1, ← hp0] at V1
  rw [← hq1, ← hq0] at V2
  rw [← hp1, ← hq1] at C1
  rw [← hp0, ← hq0] at C2
  rw [← hp1, ← hp0, ← hq1, ← hq0]
  clear hx hy ha hb hr hp1 hp0 hq1 hq0
  go_enter Tryz.func63, Tryz.ntmps63
  go_upto_region 3 with (first | (go_at_call 77; (with_reducible refine (V1.out _).mono ?_); rintro e w1 ⟨rfl, hb1⟩; obtain ⟨hc1, hf1⟩ := bcell hb1; have hz1 := hb1.size; (try simp at hz1); (try simp only [heap_drew, World.heap_drewN] at hz1); (try simp only [heap_drew, World.heap_drewN] at hc1); (try simp only [heap_drew, World.heap_drewN] at hf1); (try have hs1 := Nat.lt_of_succ_le hz1); (try have hs2 := Nat.lt_of_succ_lt hs1); (try have y0 : w.heap.size < w1.heap.size := by omega); (try have y1 : w.heap.size + 1 < w1.heap.size := by omega); (try have y2 : w.heap.size + 2 < w1.heap.size := by omega)) | (go_at_call 77; (with_reducible refine (V2.out _).mono ?_); rintro e w2 ⟨rfl, hb2⟩; obtain ⟨hc2, hf2⟩ := bcell hb2; have hz2 := hb2.size; (try simp at hz2); (try simp only [heap_drew, World.heap_drewN] at hz2); (try simp only [heap_drew, World.heap_drewN] at hc2); (try simp only [heap_drew, World.heap_drewN] at hf2); (try have hs1 := Nat.lt_of_succ_le hz2); (try have hs2 := Nat.lt_of_succ_lt hs1); (try have y0 : w.heap.size < w2.heap.size := by omega); (try have y1 : w.heap.size + 1 < w2.heap.size := by omega); (try have y2 : w.heap.size + 2 < w2.heap.size := by omega)))
  have c0 : w2.cell? ⟨w.heap.size, 0, none⟩ = some (.int .i64 p1) := by simp [go_sem, *]
  have c1 : w2.cell? ⟨w.heap.size, 1, none⟩ = some (.int .i64 p0) := by simp [go_sem, *]
  have c2 : w2.cell? ⟨w.heap.size + 1, 0, none⟩ = some (.int .i64 q1) := by simp [go_sem, *]
  have c3 : w2.cell? ⟨w.heap.size + 1, 1, none⟩ = some (.int .i64 q0) := by simp [go_sem, *]
  have hbw : Below w.heap.size w w2 := by (repeat' (first | assumption | exact Below.refl _ _ | exact Below.size (by assumption) | (refine Below.setCell ?_ ?_ _) | (refine Below.alloc ?_ ?_ _) | (refine Below.drew ?_) | (refine below_drewN ?_ _) | (refine Below.trans ?_ (Below.mono ‹Below _ _ _› ?_)) | omega | (simp; done) | (simp; omega) | (simp at *; omega)))
  have hsw : w.heap.size + 1 < w2.heap.size := by first | assumption | omega
  clear hc1 hf1 hc2 hf2 hb1 hb2
  refine wp_region_still_tail 10 (by kernel_rfl) (by kernel_rfl) ?_
  change wpStill _ _ w2.drew _ _ _
  simp only [List.take_succ_cons, List.take_zero, List.drop_succ_cons, List.drop_zero]
  still_step
  still_step
  still_step
  still_step
  still_call ((C1.out _).mono fun e w' h => ⟨h.1, h.2.symm⟩)
  still_step
  still_step
  still_step
  still_step
  still_call ((C2.out _).mono fun e w' h => ⟨h.1, h.2.symm⟩)
  try refine wpStill_nil ?_
  change wpList _ _ _ _ _ w2.drew
  go_wp2_with (first | (go_at_call 97; (with_reducible refine (C3.out _ _ ?_ ?_).mono ?_); (focus (first | (simp; done) | (simp [go_sem]; done))); (focus (first | (simp; done) | (simp [go_sem]; done))); rintro e w' ⟨rfl, rfl⟩))
  all_goals (go_ret2; refine ⟨rfl, ?_⟩; (repeat' (first | assumption | exact Below.refl _ _ | exact Below.size (by assumption) | (refine Below.setCell ?_ ?_ _) | (refine Below.alloc ?_ ?_ _) | (refine Below.drew ?_) | (refine below_drewN ?_ _) | (refine Below.trans ?_ (Below.mono ‹Below _ _ _› ?_)) | omega | (simp; done) | (simp; omega) | (simp at *; omega))))
end Go.Proofs.YtapfmbnppeonkaaGreatDoor

namespace Go.Proofs.YtapfmbnppeonkaaGreatDoor
open Go.RowKit
set_option linter.unusedVariables false
set_option linter.unusedSimpArgs false

/-- r / d + s / c is at least 1. -/
def car (r d s c : Nat) : Bool := decide (0 < r ∧ 0 < s ∧ c * d ≤ r * c + s * d)
theorem car_zero {r d s c : Nat} (h : r = 0 ∨ s = 0) : car r d s c = false := by
  unfold car; apply decide_eq_false; omega
theorem car_den {r d s c d' c' : Nat} (hd : r ≠ 0 → d = d') (hc : s ≠ 0 → c = c') : car r d s c = car r d' s c' := by
  by_cases h1 : r = 0
  · rw [car_zero (.inl h1), car_zero (.inl h1)]
  · by_cases h2 : s = 0
    · rw [car_zero (.inr h2), car_zero (.inr h2)]
    · rw [hd h1, hc h2]
theorem car_iff {r d s c : Nat} (h1 : 0 < r) (h2 : 0 < s) (hs : s < c) : car r d s c = decide ((c - s) * d ≤ r * c) := by
  unfold car
  have e : (c - s) * d = c * d - s * d := Nat.sub_mul _ _ _
  have h : s * d ≤ c * d := Nat.mul_le_mul_right d (Nat.le_of_lt hs)
  rw [e]
  congr 1
  apply propext
  constructor
  · rintro ⟨_, _, h3⟩; omega
  · intro h3; exact ⟨h1, h2, by omega⟩
theorem prod_lt {a b : Nat} (ha : a ≤ 2251799813685248) (hb : b ≤ 2251799813685248) : a * b < 1329227995784915872903807060280344576 :=
  Nat.lt_of_le_of_lt (Nat.mul_le_mul ha hb) (by decide)
set_option maxHeartbeats 1000000 in
theorem treach (r d s c : Nat) (hr : r < d) (hd : d ≤ 2251799813685248) (hs : s < c) (hc : c ≤ 2251799813685248) (w : World) :
    Calls Tryz.prog 40 #[.int .i64 (r : Int), .int .i64 (d : Int), .int .i64 (s : Int), .int .i64 (c : Int)] w fun e w' => e = .returned (.bool (car r d s c)) ∧ Below w.heap.size w w' := by
  by_cases h1 : r = 0
  · rw [car_zero (.inl h1)]
    subst h1
    clear hr hd hs hc
    go_enter Tryz.func40, Tryz.ntmps40
    go_wp2_with fail
    go_ret
    refine ⟨rfl, ?_⟩
    (repeat' (first | assumption | exact Below.refl _ _ | exact Below.size (by assumption) | (refine Below.setCell ?_ ?_ _) | (refine Below.alloc ?_ ?_ _) | (refine Below.drew ?_) | (refine below_drewN ?_ _) | (refine Below.trans ?_ (Below.mono ‹Below _ _ _› ?_)) | omega | (simp; done) | (simp; omega) | (simp at *; omega)))
  · by_cases h2 : s = 0
    · rw [car_zero (.inr h2)]
      subst h2
      have t1 : ((r : Int) == 0) = false := by simp <;> omega
      have t2 : decide (r = 0) = false := decide_eq_false h1
      clear hr hd hs hc
      go_enter Tryz.func40, Tryz.ntmps40
      go_wp2_with fail
      go_ret
      refine ⟨rfl, ?_⟩
      (repeat' (first | assumption | exact Below.refl _ _ | exact Below.size (by assumption) | (refine Below.setCell ?_ ?_ _) | (refine Below.alloc ?_ ?_ _) | (refine Below.drew ?_) | (refine below_drewN ?_ _) | (refine Below.trans ?_ (Below.mono ‹Below _ _ _› ?_)) | omega | (simp; done) | (simp; omega) | (simp at *; omega)))
    · rw [car_iff (by omega) (by omega) hs]
      obtain ⟨k, hk⟩ : ∃ k, k = c - s := ⟨_, rfl⟩
      rw [← hk]
      have e1 : IntKind.i64.wrap ((c : Int) - (s : Int)) = (k : Int) := by rw [IntKind.wrap_i64]; omega
      have S1 := Lib.hid fun w => wproduct r c (by omega) (by omega) (prod_lt (by omega) (by omega)) w
      have S2 := Lib.hid fun w => wproduct k d (by omega) (by omega) (prod_lt (by omega) (by omega)) w
      obtain ⟨z, hz, hcmp⟩ := wcmp (r * c) (k * d) (prod_lt (by omega) (by omega)) (prod_lt (by omega) (by omega))
      have S3 := Lib.hid hcmp
      have HZ : Hid (decide (0 ≤ z) = decide (k * d ≤ r * c)) := decide_eq_decide.2 hz
      obtain ⟨p1, hp1⟩ : ∃ z, z = hiW (r * c) := ⟨_, rfl⟩
      obtain ⟨p0, hp0⟩ : ∃ z, z = loW (r * c) := ⟨_, rfl⟩
      obtain ⟨q1, hq1⟩ : ∃ z, z = hiW (k * d) := ⟨_, rfl⟩
      obtain ⟨q0, hq0⟩ : ∃ z, z = loW (k * d) := ⟨_, rfl⟩
      rw [← hp1, ← hp0] at S1
      rw [← hq1, ← hq0] at S2
      rw [← hp1, ← hp0, ← hq1, ← hq0] at S3
      have t1 : ((r : Int) == 0) = false := by simp <;> omega
      have t2 : decide (r = 0) = false := decide_eq_false h1
      have t3 : ((s : Int) == 0) = false := by simp <;> omega
      have t4 : decide (s = 0) = false := decide_eq_false h2
      clear hr hd hs hc h1 h2 hk hz hcmp hp1 hp0 hq1 hq0
      go_enter Tryz.func40, Tryz.ntmps40
      go_wp2_with (first | (go_at_call 53; (with_reducible refine (S1.out _).mono ?_); rintro e w1 ⟨rfl, hb1⟩; obtain ⟨hc1, hf1⟩ := bcell hb1; have hz1 := hb1.size; (try simp at hz1); (try simp only [heap_drew, World.heap_drewN] at hz1); (try simp only [heap_drew, World.heap_drewN] at hc1); (try simp only [heap_drew, World.heap_drewN] at hf1); (try have hs1 := Nat.lt_of_succ_le hz1); (try have hs2 := Nat.lt_of_succ_lt hs1); (try have y0 : w.heap.size < w1.heap.size := by omega); (try have y1 : w.heap.size + 1 < w1.heap.size := by omega); (try have y2 : w.heap.size + 2 < w1.heap.size := by omega)) | (go_at_call 53; (with_reducible refine (S2.out _).mono ?_); rintro e w2 ⟨rfl, hb2⟩; obtain ⟨hc2, hf2⟩ := bcell hb2; have hz2 := hb2.size; (try simp at hz2); (try simp only [heap_drew, World.heap_drewN] at hz2); (try simp only [heap_drew, World.heap_drewN] at hc2); (try simp only [heap_drew, World.heap_drewN] at hf2); (try have hs1 := Nat.lt_of_succ_le hz2); (try have hs2 := Nat.lt_of_succ_lt hs1); (try have y0 : w.heap.size < w2.heap.size := by omega); (try have y1 : w.heap.size + 1 < w2.heap.size := by omega); (try have y2 : w.heap.size + 2 < w2.heap.size := by omega)) | (go_at_call 63; (with_reducible refine (S3.out _).mono ?_); rintro e w3 ⟨rfl, hb3⟩; obtain ⟨hc3, hf3⟩ := bcell hb3; have hz3 := hb3.size; (try simp at hz3); (try simp only [heap_drew, World.heap_drewN] at hz3); (try simp only [heap_drew, World.heap_drewN] at hc3); (try simp only [heap_drew, World.heap_drewN] at hf3); (try have hs1 := Nat.lt_of_succ_le hz3); (try have hs2 := Nat.lt_of_succ_lt hs1); (try have y0 : w.heap.size < w3.heap.size := by omega); (try have y1 : w.heap.size + 1 < w3.heap.size := by omega); (try have y2 : w.heap.size + 2 < w3.heap.size := by omega)))
      go_ret
      refine ⟨ret_bool HZ.out, ?_⟩
      (repeat' (first | assumption | exact Below.refl _ _ | exact Below.size (by assumption) | (refine Below.setCell ?_ ?_ _) | (refine Below.alloc ?_ ?_ _) | (refine Below.drew ?_) | (refine below_drewN ?_ _) | (refine Below.trans ?_ (Below.mono ‹Below _ _ _› ?_)) | omega | (simp; done) | (simp; omega) | (simp at *; omega)))
end Go.Proofs.YtapfmbnppeonkaaGreatDoor

namespace Go.Proofs.YtapfmbnppeonkaaGreatDoor
open Go.RowKit
set_option linter.unusedVariables false
set_option linter.unusedSimpArgs false

def cutM (X Y : Nat → Int) (lo hi : Int) : Nat → List (Int × Int)
  | 0 => []
  | i + 1 => cutM X Y lo hi i ++ (if lo < X i ∧ X i < hi then [(X i, Y i)] else [])
theorem cutM_len (X Y : Nat → Int) (lo hi : Int) : ∀ i, (cutM X Y lo hi i).length ≤ i := by
  intro i
  induction i with
  | zero => exact Nat.le_refl _
  | succ i ih => simp only [cutM, List.length_append]; split <;> simp <;> omega
def cutL (X Y : Nat → Int) (m : Nat) (lo hi : Int) : List (Int × Int) := ((lo, Val.val X Y m lo) :: cutM X Y lo hi (m + 1)) ++ (if lo < hi then [(hi, Val.val X Y m hi)] else [])

theorem cut1 (b off n m c g : Nat) (X Y : Nat → Int) (x : Int) (hn : n = m + 1) (hv : TabOK n X Y) (w : World) (ht : TabAt w b off n X Y) (hg : g < w.heap.size) (hc : w.cell? ⟨g, 0, none⟩ = some (.slice (some ⟨b, off, none⟩) n c)) :
    Calls Tryz.prog 42 #[.int .i64 x, .pointer (some ⟨g, 0, none⟩)] w fun e w' => e = .returned (.agg #[.int .i64 x, .int .i64 (Val.val X Y m x)]) ∧ Below w.heap.size w w' := by
  obtain ⟨d, hd⟩ := tpiece b off m c X Y x (hn ▸ hv)
  rw [← hn] at hd
  clear hn
  have HD := Lib.hid hd
  have HT := Lib.hid ht
  have hb := ht.1
  obtain ⟨v, hv2⟩ : ∃ v, v = Val.val X Y m x := ⟨_, rfl⟩
  obtain ⟨u, hu2⟩ : ∃ v, v = Val.rst X Y m x := ⟨_, rfl⟩
  rw [← hv2, ← hu2] at HD
  rw [← hv2]
  clear hd hv ht hv2 hu2
  go_enter Tryz.func42, Tryz.ntmps42
  go_wp2_with (first | (go_at_call 28; (with_reducible refine (HD.out _ ?_).mono ?_); (focus (exact HT.out.below (by (repeat' (first | assumption | exact Below.refl _ _ | exact Below.size (by assumption) | (refine Below.setCell ?_ ?_ _) | (refine Below.alloc ?_ ?_ _) | (refine Below.drew ?_) | (refine below_drewN ?_ _) | (refine Below.trans ?_ (Below.mono ‹Below _ _ _› ?_)) | omega | (simp; done) | (simp; omega) | (simp at *; omega)))) hb)); rintro e w1 ⟨rfl, hb1⟩; obtain ⟨hc1, hf1⟩ := bcell hb1; have hz1 := hb1.size; (try simp at hz1); (try simp only [heap_drew, World.heap_drewN] at hz1); (try simp only [heap_drew, World.heap_drewN] at hc1); (try simp only [heap_drew, World.heap_drewN] at hf1); (try have hs1 := Nat.lt_of_succ_le hz1); (try have hs2 := Nat.lt_of_succ_lt hs1); (try have y0 : w.heap.size < w1.heap.size := by omega); (try have y1 : w.heap.size + 1 < w1.heap.size := by omega); (try have y2 : w.heap.size + 2 < w1.heap.size := by omega)))
  refine bodyPost_ret (v := .agg #[.int .i64 x, .int .i64 v]) (by simp [results, Tryz.results42, go_sem, *]) rfl ⟨rfl, ?_⟩
  (repeat' (first | assumption | exact Below.refl _ _ | exact Below.size (by assumption) | (refine Below.setCell ?_ ?_ _) | (refine Below.alloc ?_ ?_ _) | (refine Below.drew ?_) | (refine below_drewN ?_ _) | (refine Below.trans ?_ (Below.mono ‹Below _ _ _› ?_)) | omega | (simp; done) | (simp; omega) | (simp at *; omega)))

/-- The knots that Cut has when it has looked at the first i of the table. -/
def cutC (X Y : Nat → Int) (lo hi vl : Int) (i : Nat) : List (Int × Int) := (lo, vl) :: cutM X Y lo hi i
theorem cutC_len (X Y : Nat → Int) (lo hi vl : Int) (i : Nat) : (cutC X Y lo hi vl i).length ≤ i + 1 := by
  have := cutM_len X Y lo hi i
  simp only [cutC, List.length_cons]; omega
theorem cutC_in {X Y : Nat → Int} {lo hi vl : Int} {i : Nat} (h1 : lo < X i) (h2 : X i < hi) : cutC X Y lo hi vl (i + 1) = cutC X Y lo hi vl i ++ [(X i, Y i)] := by
  simp only [cutC, cutM, if_pos (And.intro h1 h2), List.cons_append]
theorem cutC_out {X Y : Nat → Int} {lo hi vl : Int} {i : Nat} (h : ¬ (lo < X i ∧ X i < hi)) : cutC X Y lo hi vl (i + 1) = cutC X Y lo hi vl i := by
  simp only [cutC, cutM, if_neg h, List.append_nil]
theorem cutL_lt {X Y : Nat → Int} {m : Nat} {lo hi : Int} (h : lo < hi) : cutL X Y m lo hi = cutC X Y lo hi (Val.val X Y m lo) (m + 1) ++ [(hi, Val.val X Y m hi)] := by
  unfold cutL cutC; rw [if_pos h]
theorem cutL_eq {X Y : Nat → Int} {m : Nat} {lo hi : Int} (h : ¬ lo < hi) : cutL X Y m lo hi = cutC X Y lo hi (Val.val X Y m lo) (m + 1) := by
  unfold cutL cutC; rw [if_neg h, List.append_nil]
/-- What the loop of Cut keeps. -/
def CutMem (w wr : World) (b off n c g cap K : Nat) (xs : List Value) : Prop :=
  wr.ownsRow (w.heap.size + 1) 49 2 (.slice (some ⟨g, 0, none⟩) K cap) K xs ∧ Blk wr w.heap.size 23 #[.slice (some ⟨b, off, none⟩) n c] ∧ Below w.heap.size w wr
theorem CutMem.call {w wr w' : World} {b off n c g cap K : Nat} {xs : List Value} (h : CutMem w wr b off n c g cap K xs) (hb : Below wr.heap.size wr w') : CutMem w w' b off n c g cap K xs :=
  ⟨own_below h.1 hb, h.2.1.call hb, h.2.2.trans (hb.mono h.2.2.size)⟩
theorem CutMem.app {w wr w' : World} {b off n c g cap K g' cap' : Nat} {xs news : List Value} {cs : Array Value} (h : CutMem w wr b off n c g cap K xs)
    (hown : w'.ownsRow (w.heap.size + 1) 49 2 (.slice (some ⟨g', 0, none⟩) (K + 1) cap') (K + 1) (xs ++ news)) (hg : (wr.alloc (.cells cs 49)).grownBy w' (Value.slice (some ⟨g, 0, none⟩) K cap).ownBlock) : CutMem w w' b off n c g' cap' (K + 1) (xs ++ news) := by
  have h0 := h.2.1.lt
  have hne := own_blk_ne h.1 h.2.1 (by decide)
  refine ⟨hown, (h.2.1.alloc _).grown hg hne.symm, ?_⟩
  have hb1 : Below w.heap.size w (wr.alloc (.cells cs 49)) := h.2.2.alloc (Nat.le_of_lt h0) _
  refine ⟨hg.os.trans hb1.os, hg.tape.trans hb1.tape, hg.output.trans hb1.output, Nat.le_trans hb1.size hg.size, fun k hk => ?_⟩
  have hgge : w.heap.size + 1 ≤ g := (h.1.lt g rfl).1
  refine (hg.block k (Nat.lt_of_lt_of_le hk hb1.size) ?_).trans (hb1.block k hk)
  intro e
  simp [Value.ownBlock] at e
  omega
/-- What Cut answers where its arguments are right. -/
def CutPost (w : World) (L : List (Int × Int)) (e : Ending) (w' : World) : Prop :=
  (L.length ≤ 100 ∧ ∃ g cap : Nat, e = .returned (.tuple #[.slice (some ⟨g, 0, none⟩) L.length cap, .int .i64 0]) ∧ w.heap.size ≤ g ∧ TabAt w' g 0 L.length (kX L) (kY L) ∧ Below w.heap.size w w') ∨
  (100 < L.length ∧ e = .returned (.tuple #[.slice none 0 0, .int .i64 4]) ∧ Below w.heap.size w w')
theorem CutMem.post {w wr : World} {b off n c g cap K : Nat} {L : List (Int × Int)} (h : CutMem w wr b off n c g cap K (kc L)) (hK : K = L.length) (h1 : K ≤ 100) : CutPost w L (.returned (.tuple #[.slice (some ⟨g, 0, none⟩) K cap, .int .i64 0])) wr := by
  subst hK
  exact .inl ⟨h1, g, cap, rfl, by have := (h.1.lt g rfl).1; omega, tab_of_kc h.1, h.2.2⟩
set_option maxRecDepth 100000 in
set_option maxHeartbeats 4000000 in
theorem tcut_in (b off n m c : Nat) (X Y : Nat → Int) (lo hi : Int) (hn : n = m + 1) (hv : TabOK n X Y) (hlo : inB lo) (hhi : inB hi) (hle : lo ≤ hi) (w : World) (ht : TabAt w b off n X Y) :
    Calls Tryz.prog 18 #[.slice (some ⟨b, off, none⟩) n c, .int .i64 lo, .int .i64 hi] w (CutPost w (cutL X Y m lo hi)) := by
  have S0 := Lib.hid fun w ht => tvalid b off n c X Y w hv.1 hv.2.1 ht
  have tv := tabB_true hv
  have h100 := hv.2.1
  have SL := Lib.hid fun (w' : World) ht hg hc => cut1 b off n m c w.heap.size X Y lo hn hv w' ht hg hc
  have SH := Lib.hid fun (w' : World) ht hg hc => cut1 b off n m c w.heap.size X Y hi hn hv w' ht hg hc
  have SF1 := Lib.hid fun w => tfits lo w
  have SF2 := Lib.hid fun w => tfits hi w
  have f1 := betw_true hlo
  have f2 := betw_true hhi
  have T1 : decide (hi < lo) = false := decide_eq_false (by omega)
  have HT := Lib.hid ht
  have HV := Lib.hid hv
  have HLE := Lib.hid hle
  have H100 := Lib.hid h100
  have hb := ht.1
  obtain ⟨vl, hvl⟩ : ∃ v, v = Val.val X Y m lo := ⟨_, rfl⟩
  obtain ⟨vh, hvh⟩ : ∃ v, v = Val.val X Y m hi := ⟨_, rfl⟩
  have HVL := Lib.hid hvl
  have HVH := Lib.hid hvh
  have HN := Lib.hid hn
  clear hn hv ht hlo hhi hle hvl hvh h100
  go_enter Tryz.func18, Tryz.ntmps18
  go_upto_region 5 with (first | (go_at_call 23; (with_reducible refine (S0.out _ ?_).mono ?_); (focus (exact HT.out.below (by (repeat' (first | assumption | exact Below.refl _ _ | exact Below.size (by assumption) | (refine Below.setCell ?_ ?_ _) | (refine Below.alloc ?_ ?_ _) | (refine Below.drew ?_) | (refine below_drewN ?_ _) | (refine Below.trans ?_ (Below.mono ‹Below _ _ _› ?_)) | omega | (simp; done) | (simp; omega) | (simp at *; omega)))) hb)); rintro e w1 ⟨rfl, hb1⟩; obtain ⟨hc1, hf1⟩ := bcell hb1; have hz1 := hb1.size; (try simp at hz1); (try simp only [heap_drew, World.heap_drewN] at hz1); (try simp only [heap_drew, World.heap_drewN] at hc1); (try simp only [heap_drew, World.heap_drewN] at hf1); (try have hs1 := Nat.lt_of_succ_le hz1); (try have hs2 := Nat.lt_of_succ_lt hs1); (try have y0 : w.heap.size < w1.heap.size := by omega); (try have y1 : w.heap.size + 1 < w1.heap.size := by omega); (try have y2 : w.heap.size + 2 < w1.heap.size := by omega)) | (go_at_call 41; (with_reducible refine (SF1.out _).mono ?_); rintro e w' ⟨rfl, rfl⟩) | (go_at_call 41; (with_reducible refine (SF2.out _).mono ?_); rintro e w' ⟨rfl, rfl⟩))
  have hbk1 : Blk w1 w.heap.size 23 #[.slice (some ⟨b, off, none⟩) n c] := (Blk.new w _ _).below hb1 (by simp)
  have hbW1 : Below w.heap.size w w1 := by (repeat' (first | assumption | exact Below.refl _ _ | exact Below.size (by assumption) | (refine Below.setCell ?_ ?_ _) | (refine Below.alloc ?_ ?_ _) | (refine Below.drew ?_) | (refine below_drewN ?_ _) | (refine Below.trans ?_ (Below.mono ‹Below _ _ _› ?_)) | omega | (simp; done) | (simp; omega) | (simp at *; omega)))
  have lk1 := hbk1.lt
  have ck1 := hbk1.cell 0
  simp only [List.getElem?_toArray, List.getElem?_cons_zero] at ck1
  have HBK := Lib.hid hbk1
  have HBW := Lib.hid hbW1
  clear hbk1 hbW1 hc1 hf1 hb1
  rw [← HVL.out] at SL
  rw [← HVH.out] at SH
  go_upto_region 7 with (first | (go_at_call 42; (with_reducible refine (SL.out _ ?_ ?_ ?_).mono ?_); (focus (exact HT.out.below (by have := HBW.out; (repeat' (first | assumption | exact Below.refl _ _ | exact Below.size (by assumption) | (refine Below.setCell ?_ ?_ _) | (refine Below.alloc ?_ ?_ _) | (refine Below.drew ?_) | (refine below_drewN ?_ _) | (refine Below.trans ?_ (Below.mono ‹Below _ _ _› ?_)) | omega | (simp; done) | (simp; omega) | (simp at *; omega)))) hb)); (focus (first | assumption | (simp; omega))); (focus (first | assumption | (simp [*]; done))); rintro e w2 ⟨rfl, hb2⟩))
  have hM0 : CutMem w (w2.alloc (Obj.cells #[.int .i64 lo, .int .i64 vl] 49)) b off n c w2.heap.size 1 1 (kc (cutC X Y lo hi vl 0)) :=
    ⟨own_lit_at rfl (by have := HBK.out.lt; have := hb2.size; omega) 1 (by simp [maxLen]) rfl rfl, (HBK.out.call hb2).alloc _, (HBW.out.trans (hb2.mono HBW.out.size)).alloc (by have := HBW.out.size; have := hb2.size; omega) _⟩
  have ck2 := hM0.2.1.cell 0
  simp only [List.getElem?_toArray, List.getElem?_cons_zero] at ck2
  obtain ⟨w3, hw3⟩ : ∃ z, z = w2.alloc (Obj.cells #[.int .i64 lo, .int .i64 vl] 49) := ⟨_, rfl⟩
  rw [← hw3] at hM0 ck2 ⊢
  obtain ⟨g0, hg0⟩ : ∃ z, z = w2.heap.size := ⟨_, rfl⟩
  rw [← hg0] at hM0 ⊢
  have HM0 := Lib.hid hM0
  clear hM0 hw3 hg0 hb2
  obtain ⟨i0, hi0, hz0, hz1, hz2⟩ := info_parts1 info39
  have HI0 := Lib.hid hi0
  have HZ0 := Lib.hid hz0
  have HZ1 := Lib.hid hz1
  have HZ2 := Lib.hid hz2
  clear hi0 hz0 hz1 hz2
  go_wp2_with fail
  go_loopw [9, 37] (fun u v wr => ∃ i g cap K : Nat, Hid (i ≤ n) ∧ Hid (K = (cutC X Y lo hi vl i).length) ∧ u = .slice (some ⟨g, 0, none⟩) K cap ∧ v = .int .i64 i ∧ Hid (CutMem w wr b off n c g cap K (kc (cutC X Y lo hi vl i)))) (fun _ v _ => n - (intOf v).toNat)
  case atStart => exact ⟨0, g0, 1, 1, Nat.zero_le _, rfl, rfl, rfl, HM0⟩
  case round =>
    obtain ⟨i, g, cap, K, Hi, HK, rfl, rfl, HM⟩ := hrel
    have HB300 : Hid (K ≤ 300) := by show K ≤ 300; have := HK.out; have := cutC_len X Y lo hi vl i; have := Hi.out; have := H100.out; omega
    by_cases hlt : i < n
    · have T0 : decide ((i : Int) < (n : Int)) = true := by simp <;> omega
      have T0' : decide (i < n) = true := decide_eq_true hlt
      obtain ⟨i', hi'⟩ : ∃ z, z = i + 1 := ⟨_, rfl⟩
      have x0 : IntKind.i64.wrap ((i : Int) + 1) = (i' : Int) := by have := H100.out; rw [IntKind.wrap_i64]; omega
      have HI' : Hid (i' ≤ n) := by show i' ≤ n; omega
      have HMS : Hid (n - (intOf (Value.int .i64 (i' : Int))).toNat < n - (intOf (Value.int .i64 (i : Int))).toNat) := by show _ < _; simp [intOf]; omega
      have HTr := HT.out.below HM.out.2.2 hb
      have hx1 := (HTr.2 i hlt).1
      have hy1 := (HTr.2 i hlt).2
      have k0 : (0 : Int) ≤ (i : Int) := by omega
      have k1 : (i : Int) < (n : Int) := by omega
      have hIn : lo < X i → X i < hi → Hid (cutC X Y lo hi vl i' = cutC X Y lo hi vl i ++ [(X i, Y i)]) := fun h1 h2 => by rw [hi']; exact cutC_in h1 h2
      have hOut : ¬ (lo < X i ∧ X i < hi) → Hid (cutC X Y lo hi vl i' = cutC X Y lo hi vl i) := fun h => by rw [hi']; exact cutC_out h
      obtain ⟨xx, hxx⟩ : ∃ z, z = X i := ⟨_, rfl⟩
      obtain ⟨yy, hyy⟩ : ∃ z, z = Y i := ⟨_, rfl⟩
      rw [← hxx] at hx1 hIn hOut
      rw [← hyy] at hy1 hIn
      clear hi' HTr hlt hxx hyy
      by_cases hl : lo < xx
      · by_cases hh : xx < hi
        · have t1 := decide_eq_true hl
          have t2 := decide_eq_true hh
          have HE := hIn hl hh
          clear hIn hOut hl hh
          go_upto_region 11 with fail
          have hMk := HM.out.call (w' := wr.alloc (Obj.cells #[.int .i64 xx, .int .i64 yy] 49)) (by (repeat' (first | assumption | exact Below.refl _ _ | exact Below.size (by assumption) | (refine Below.setCell ?_ ?_ _) | (refine Below.alloc ?_ ?_ _) | (refine Below.drew ?_) | (refine below_drewN ?_ _) | (refine Below.trans ?_ (Below.mono ‹Below _ _ _› ?_)) | omega | (simp; done) | (simp; omega) | (simp at *; omega))))
          have c0 : (wr.alloc (Obj.cells #[.int .i64 xx, .int .i64 yy] 49)).cell? ⟨wr.heap.size, 0, none⟩ = some (.int .i64 xx) := by simp
          have c1 : (wr.alloc (Obj.cells #[.int .i64 xx, .int .i64 yy] 49)).cell? ⟨wr.heap.size, 1, none⟩ = some (.int .i64 yy) := by simp
          generalize wr.alloc (Obj.cells #[.int .i64 xx, .int .i64 yy] 49) = wk at hMk c0 c1 ⊢
          have HMK := Lib.hid hMk
          have HBASE : Hid (w.heap.size + 1 ≤ wk.heap.size) := hMk.2.1.lt
          clear hMk hx1 hy1
          go_wp2_with (first
            | (at_builtin; refine wpList_append_own_at _ ?g1 (.tmp 51) (.tmp 53) 23 ?g2 (w.heap.size + 1) 49 i0 (.agg #[.int .i64 0, .int .i64 0]) 2 16 Tryz.underlying23 HI0.out HZ0.out HZ1.out HZ2.out ?g3 ?g4 (.slice (some ⟨g, 0, none⟩) K cap) K (kc (cutC X Y lo hi vl i)) ?g5 ?g6 ⟨wk.heap.size, 0, none⟩ 1 1 [.int .i64 xx, .int .i64 yy] ?g7 ?g8 ?g9 ?g10 (h63_le HB300.out) (hby_le HB300.out) ?g11 ?g14
               case g1 => exact rfl
               case g2 => exact rfl
               case g3 => exact rfl
               case g4 => decide
               case g5 => exact rfl
               case g6 => exact (HMK.out.1.alloc _)
               case g7 => exact rfl
               case g8 => exact rfl
               case g9 => exact World.news_of_block (cs := #[.int .i64 xx, .int .i64 yy]) (t := 49) (fr := (0, 0)) (heap_alloc_new _ _)
               case g10 => simp [Value.oneCell']
               case g11 => exact base_alloc1 HBASE.out _
               intro v2 w4 hown2 hgrow2 hnil2 hat2
               obtain ⟨g2, cap2, rfl, hb2, hl2⟩ := hown2.form (Nat.succ_pos _)
               have HM2 := Lib.hid (HMK.out.app hown2 hgrow2)
               clear hown2 hgrow2 hnil2 hat2))
          go_roundw
          case rel => exact ⟨i', g2, cap2, K + 1, HI', by show K + 1 = _; rw [HE.out, HK.out, List.length_append]; rfl, rfl, rfl, by rw [HE.out, kc_append, kc_one]; exact HM2⟩
          case measure => exact HMS.out
        · have t1 := decide_eq_true hl
          have t2 := decide_eq_false hh
          have HE := hOut (fun h => hh h.2)
          clear hIn hOut hl hh
          go_wp2_with fail
          go_roundw
          case rel => exact ⟨i', g, cap, K, HI', by rw [HE.out]; exact HK, rfl, rfl, by rw [HE.out]; exact HM.out.call (by (repeat' (first | assumption | exact Below.refl _ _ | exact Below.size (by assumption) | (refine Below.setCell ?_ ?_ _) | (refine Below.alloc ?_ ?_ _) | (refine Below.drew ?_) | (refine below_drewN ?_ _) | (refine Below.trans ?_ (Below.mono ‹Below _ _ _› ?_)) | omega | (simp; done) | (simp; omega) | (simp at *; omega))))⟩
          case measure => exact HMS.out
      · have t1 := decide_eq_false hl
        have HE := hOut (fun h => hl h.1)
        clear hIn hOut hl
        go_wp2_with fail
        go_roundw
        case rel => exact ⟨i', g, cap, K, HI', by rw [HE.out]; exact HK, rfl, rfl, by rw [HE.out]; exact HM.out.call (by (repeat' (first | assumption | exact Below.refl _ _ | exact Below.size (by assumption) | (refine Below.setCell ?_ ?_ _) | (refine Below.alloc ?_ ?_ _) | (refine Below.drew ?_) | (refine below_drewN ?_ _) | (refine Below.trans ?_ (Below.mono ‹Below _ _ _› ?_)) | omega | (simp; done) | (simp; omega) | (simp at *; omega))))⟩
        case measure => exact HMS.out
    · have e : i = n := by have := Hi.out; omega
      have T0' : decide (i < n) = false := decide_eq_false hlt
      have T0 : decide ((i : Int) < (n : Int)) = false := by simp <;> omega
      have ckr := HM.out.2.1.cell 0
      simp only [List.getElem?_toArray, List.getElem?_cons_zero] at ckr
      have lkr := HM.out.2.1.lt
      have hEq : i = m + 1 := by rw [e]; exact HN.out
      rw [hEq] at HK HM
      have HE : Hid (i = m + 1) := hEq
      clear e hEq hlt
      by_cases hlh : lo < hi
      · have t3 := decide_eq_true hlh
        have HL : Hid (cutL X Y m lo hi = cutC X Y lo hi vl (m + 1) ++ [(hi, vh)]) := by
          show _ = _; rw [cutL_lt hlh, ← HVL.out, ← HVH.out]
        clear hlh
        go_upto_region 15 with (first
          | (go_at_call 42
             with_reducible refine (SH.out _ ?_ ?_ ?_).mono ?_
             focus (exact HT.out.below HM.out.2.2 hb)
             focus (first | assumption | (simp; omega))
             focus (first | assumption | (simp [*]; done))
             rintro e wk ⟨rfl, hbk⟩
             have HMK := Lib.hid (HM.out.call hbk)
             have HBASE : Hid (w.heap.size + 1 ≤ wk.heap.size) := HMK.out.2.1.lt
             clear hbk)
          | (at_builtin; refine wpList_append_own_at _ ?k1 (.tmp 59) (.tmp 63) 23 ?k2 (w.heap.size + 1) 49 i0 (.agg #[.int .i64 0, .int .i64 0]) 2 16 Tryz.underlying23 HI0.out HZ0.out HZ1.out HZ2.out ?k3 ?k4 (.slice (some ⟨g, 0, none⟩) K cap) K (kc (cutC X Y lo hi vl (m + 1))) ?k5 ?k6 ⟨wk.heap.size, 0, none⟩ 1 1 [.int .i64 hi, .int .i64 vh] ?k7 ?k8 ?k9 ?k10 (h63_le HB300.out) (hby_le HB300.out) ?k11 ?k14
             case k1 => exact rfl
             case k2 => exact rfl
             case k3 => exact rfl
             case k4 => decide
             case k5 => exact rfl
             case k6 => exact (HMK.out.1.alloc _)
             case k7 => exact rfl
             case k8 => exact rfl
             case k9 => exact World.news_of_block (cs := #[.int .i64 hi, .int .i64 vh]) (t := 49) (fr := (0, 0)) (heap_alloc_new _ _)
             case k10 => simp [Value.oneCell']
             case k11 => exact base_alloc1 HBASE.out _
             intro v2 w4 hown2 hgrow2 hnil2 hat2
             obtain ⟨g2, cap2, rfl, hb2, hl2⟩ := hown2.form (Nat.succ_pos _)
             have HM2 := Lib.hid (HMK.out.app hown2 hgrow2)
             obtain ⟨K', hK'⟩ : ∃ z, z = K + 1 := ⟨_, rfl⟩
             rw [← hK'] at HM2 ⊢
             have HK' := Lib.hid hK'
             clear hown2 hgrow2 hnil2 hat2 hK'))
        have HM3 : Hid (CutMem w w4 b off n c g2 cap2 K' (kc (cutL X Y m lo hi))) := by rw [HL.out, kc_append, kc_one]; exact HM2
        have HK3 : Hid (K' = (cutL X Y m lo hi).length) := by show K' = _; rw [HL.out, List.length_append, HK'.out, HK.out]; rfl
        by_cases h100 : 100 < K'
        · have t4 : decide ((100 : Int) < (K' : Int)) = true := decide_eq_true (by omega)
          have t5 : decide (100 < K') = true := decide_eq_true h100
          have H5 := Lib.hid h100
          clear h100
          go_wp2_with fail
          go_ret2
          exact .inr ⟨by rw [← HK3.out]; exact H5.out, rfl, HM3.out.2.2⟩
        · have t4 : decide ((100 : Int) < (K' : Int)) = false := decide_eq_false (by omega)
          have t5 : decide (100 < K') = false := decide_eq_false h100
          have H5 : Hid (K' ≤ 100) := by show K' ≤ 100; omega
          clear h100
          go_wp2_with fail
          go_ret2
          exact HM3.out.post HK3.out H5.out
      · have t3 := decide_eq_false hlh
        have HL : Hid (cutL X Y m lo hi = cutC X Y lo hi vl (m + 1)) := by
          show _ = _; rw [cutL_eq hlh, ← HVL.out]
        clear hlh
        have HM3 : Hid (CutMem w wr b off n c g cap K (kc (cutL X Y m lo hi))) := by rw [HL.out]; exact HM
        have HK3 : Hid (K = (cutL X Y m lo hi).length) := by show K = _; rw [HL.out, HK.out]
        by_cases h100 : 100 < K
        · have t4 : decide ((100 : Int) < (K : Int)) = true := decide_eq_true (by omega)
          have t5 : decide (100 < K) = true := decide_eq_true h100
          have H5 := Lib.hid h100
          clear h100
          go_wp2_with fail
          go_ret2
          exact .inr ⟨by rw [← HK3.out]; exact H5.out, rfl, HM3.out.2.2⟩
        · have t4 : decide ((100 : Int) < (K : Int)) = false := decide_eq_false (by omega)
          have t5 : decide (100 < K) = false := decide_eq_false h100
          have H5 : Hid (K ≤ 100) := by show K ≤ 100; omega
          clear h100
          go_wp2_with fail
          go_ret2
          exact HM3.out.post HK3.out H5.out
end Go.Proofs.YtapfmbnppeonkaaGreatDoor

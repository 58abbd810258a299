/- Merged: Kl, GrowK, Concat. -/
import Derived.Test.YtpeelnjkppdkbaaGreatCircle
import Derived.Lib.AppendZerosOnto
import Derived.Lib.AppendZeros
import Derived.Lib.SliceRun
import Derived.Lib.Walk
namespace Go.Proofs.YtpeelnjkppdkbaaGreat
open Go.RowKit
set_option linter.unusedVariables false
set_option linter.unusedSimpArgs false

def kc (L : List (Int × Int)) : List Value := L.flatMap fun p => [.int .i64 p.1, .int .i64 p.2]
def kX (L : List (Int × Int)) (k : Nat) : Int := (L.getD k (0, 0)).1
def kY (L : List (Int × Int)) (k : Nat) : Int := (L.getD k (0, 0)).2
theorem kc_append (L M : List (Int × Int)) : kc (L ++ M) = kc L ++ kc M := by unfold kc; rw [List.flatMap_append]
theorem kc_one (x y : Int) : kc [(x, y)] = [.int .i64 x, .int .i64 y] := rfl
theorem kc_len (L : List (Int × Int)) : (kc L).length = L.length * 2 := by
  induction L with
  | nil => rfl
  | cons p L ih => show (kc ([p] ++ L)).length = _; rw [kc_append, List.length_append, ih]; simp [kc]; omega
theorem kc_at (L : List (Int × Int)) (k : Nat) (h : k < L.length) : (kc L)[k * 2]? = some (.int .i64 (kX L k)) ∧ (kc L)[k * 2 + 1]? = some (.int .i64 (kY L k)) := by
  induction L generalizing k with
  | nil => simp at h
  | cons p L ih =>
    cases k with
    | zero => exact ⟨rfl, rfl⟩
    | succ k =>
      have := ih k (by simp at h; omega)
      have e1 : (k + 1) * 2 = k * 2 + 1 + 1 := by omega
      rw [e1]
      exact this
theorem tab_of_kc {w : World} {base g cap : Nat} {t : TypeId} {L : List (Int × Int)} (h : w.ownsRow base t 2 (.slice (some ⟨g, 0, none⟩) L.length cap) L.length (kc L)) : TabAt w g 0 L.length (kX L) (kY L) := by
  refine ⟨(h.lt g rfl).2, fun k hk => ?_⟩
  obtain ⟨h1, h2⟩ := kc_at L k hk
  rw [Nat.zero_add]
  exact ⟨(h.cellAt (k * 2) (by omega)).trans h1, (h.cellAt (k * 2 + 1) (by omega)).trans h2⟩
theorem h63_le {n : Nat} (h : n ≤ 300) : n + 1 ≤ maxLen := by simp only [maxLen]; omega
theorem hby_le {n : Nat} (h : n ≤ 300) : (n + 1) * 16 ≤ 140737488355328 := by omega
theorem base_alloc1 {w : World} {b : Nat} (h : b ≤ w.heap.size) (o : Obj) : b ≤ (w.alloc o).heap.size := by simp; omega
theorem info_parts1 {P : Program} {e : TypeId} {x y z} (h : (P.info? e).map (fun i => (i.zero, i.size, i.bytes)) = some (x, y, z)) : ∃ i, P.info? e = some i ∧ i.zero = x ∧ i.size = y ∧ i.bytes = z := by
  cases hi : P.info? e with
  | none => rw [hi] at h; simp at h
  | some i => rw [hi] at h; simp at h; exact ⟨i, rfl, h.1, h.2.1, h.2.2⟩
end Go.Proofs.YtpeelnjkppdkbaaGreat

namespace Go.Proofs.YtpeelnjkppdkbaaGreat
open Go.RowKit
set_option linter.unusedVariables false
set_option linter.unusedSimpArgs false

set_option maxHeartbeats 2000000 in
set_option maxRecDepth 100000 in
theorem cgrow (n : Nat) (h0 : 0 < n) (h1 : n ≤ 300) (w : World) :
    Calls Tryz.prog 41 #[.slice none 0 0, .int .i64 (n : Int)] w fun e w' => ∃ C : Nat, e = .returned (.slice (some ⟨w.heap.size, 0, none⟩) 0 C) ∧ w'.ownsRow w.heap.size 47 2 (.slice (some ⟨w.heap.size, 0, none⟩) 0 C) 0 [] ∧ Below w.heap.size w w' := by
  obtain ⟨i0, hi0, hz0, hs0, hby⟩ := info_parts1 info39
  have hold : (Builtin.firstCells i0.size 0 (.slice none 0 0)).run Tryz.prog w.drew = .ok (#[] : Array Value) w.drew := run_firstCells_none w.drew i0.size 0 0 0
  have hge := grownCap_ge w n 0 47
  have hle := grownCap_le_maxLen w n 0 47 (by unfold maxLen; omega)
  have hr : ∀ ty, (Builtin.append_ #[23, 3] ty #[.slice none 0 0, .int .i64 (n : Int)]).run Tryz.prog w =
      .ok (.slice (some ⟨w.heap.size, 0, none⟩) n (grownCap w n 0 47)) (w.drew.alloc (.cells (#[] ++ Builtin.zeroCells (Value.agg #[.int .i64 0, .int .i64 0]).cells n ++ Builtin.zeroCells (Value.agg #[.int .i64 0, .int .i64 0]).cells (grownCap w n 0 47 - n)) 47)) := fun ty => by
    have h := Lib.run_append_grow_zeros w 23 3 ty 47 i0 (.agg #[.int .i64 0, .int .i64 0]) .i64 .i64 Tryz.underlying23 Tryz.underlying3 hi0 hz0 none 0 0 [] hold n h0 (by omega) (by omega) (by omega) (by rw [hby]; omega) (growslice_fits (by omega) (by rw [hby]; omega))
    rw [Nat.zero_add] at h
    exact h
  obtain ⟨C, hC⟩ : ∃ C, C = grownCap w n 0 47 := ⟨_, rfl⟩
  rw [← hC] at hr hge hle
  have HO : Hid (∀ u, u = (w.drew.alloc (.cells (#[] ++ Builtin.zeroCells (Value.agg #[.int .i64 0, .int .i64 0]).cells n ++ Builtin.zeroCells (Value.agg #[.int .i64 0, .int .i64 0]).cells (C - n)) 47)) → u.ownsRow w.heap.size 47 2 (.slice (some ⟨w.heap.size, 0, none⟩) 0 C) 0 [] ∧ Below w.heap.size w u) := by
    rintro u rfl
    refine ⟨⟨rfl, .inr ⟨w.heap.size, C, _, rfl, Nat.le_refl _, heap_alloc_new w.drew _, Nat.zero_le _, hle, ?_, rfl⟩⟩, (Below.refl _ w).drew.alloc (Nat.le_refl _) _⟩
    simp only [Array.size_append, size_zeroCells]
    have : (Value.agg #[.int .i64 0, .int .i64 0]).cells.size = 2 := rfl
    rw [this]
    simp
    omega
  have h2 : wrap64 ((n : Int) - 0) = (n : Int) := by unfold wrap64; omega
  have h3 : IntKind.i64.wrap ((n : Int) - 0) = (n : Int) := by rw [IntKind.wrap_i64]; omega
  have h3' : IntKind.i64.wrap (n : Int) = (n : Int) := by rw [IntKind.wrap_i64]; omega
  have h4 : decide ((0 : Int) < (n : Int)) = true := by simp; omega
  have h5 : decide (0 < n) = true := decide_eq_true h0
  have h6 : decide ((n : Int) < 0) = false := by simp
  have HL := Lib.hid hle
  have hr2 := Lib.hid hr
  have hC0 : (0 : Int) ≤ (C : Int) := by omega
  clear hold hge hle hC hr h0 h1
  go_enter Tryz.func41, Tryz.ntmps41
  go_wp2_with (at_builtin; refine Lib.wpList_append_run _ rfl _ _ _ _ rfl _ _ rfl rfl _ _ (hr2.out _) ?_)
  go_ret
  exact ⟨C, rfl, HO.out _ (by simp; rfl)⟩
end Go.Proofs.YtpeelnjkppdkbaaGreat

namespace Go.Proofs.YtpeelnjkppdkbaaGreat
open Go.RowKit
set_option linter.unusedVariables false
set_option linter.unusedSimpArgs false

/-- The knots of a table. -/
def tl (n : Nat) (X Y : Nat → Int) : List (Int × Int) := (List.range n).map fun k => (X k, Y k)
theorem tl_len (n : Nat) (X Y : Nat → Int) : (tl n X Y).length = n := by simp [tl]
theorem tl_at {n k : Nat} {X Y : Nat → Int} (h : k < n) : kX (tl n X Y) k = X k ∧ kY (tl n X Y) k = Y k := by
  unfold kX kY tl
  simp [List.getD, h]
theorem addr_add (b off j : Nat) : (⟨b, off, none⟩ : Addr).add j = ⟨b, off + j, none⟩ := by
  unfold Addr.add
  by_cases h : j = 0
  · subst h; rfl
  · simp [h]
theorem tab_news {w : World} {b off n : Nat} {X Y : Nat → Int} (ht : TabAt w b off n X Y) : ∀ j u, (kc (tl n X Y))[j]? = some u → w.cell? ((⟨b, off, none⟩ : Addr).add j) = some u := by
  intro j u hj
  have hlen : j < (kc (tl n X Y)).length := by
    rcases Nat.lt_or_ge j (kc (tl n X Y)).length with h | h
    · exact h
    · rw [List.getElem?_eq_none h] at hj; cases hj
  rw [kc_len, tl_len] at hlen
  have hk : j / 2 < n := by omega
  obtain ⟨h1, h2⟩ := kc_at (tl n X Y) (j / 2) (by rw [tl_len]; exact hk)
  obtain ⟨e1, e2⟩ := tl_at (X := X) (Y := Y) hk
  rw [e1] at h1
  rw [e2] at h2
  have hT := ht.2 (j / 2) hk
  by_cases hp : j % 2 = 0
  · have e : j = j / 2 * 2 := by omega
    rw [← e] at h1 hT
    rw [hj] at h1
    rw [Option.some.inj h1]
    rw [addr_add]; exact hT.1
  · have e : j = j / 2 * 2 + 1 := by omega
    have e' : off + j / 2 * 2 + 1 = off + j := by omega
    rw [← e] at h2
    rw [e'] at hT
    rw [hj] at h2
    rw [Option.some.inj h2]
    rw [addr_add]; exact hT.2
theorem kc_cells (L : List (Int × Int)) : ∀ u ∈ kc L, u.oneCell' = true := by
  intro u hu
  unfold kc at hu
  rw [List.mem_flatMap] at hu
  obtain ⟨p, _, hu⟩ := hu
  simp at hu
  rcases hu with rfl | rfl <;> rfl
theorem h63_add {a b : Nat} (ha : a ≤ 300) (hb : b ≤ 300) : a + b ≤ maxLen := by simp only [maxLen]; omega
theorem hby_add {a b : Nat} (ha : a ≤ 300) (hb : b ≤ 300) : (a + b) * 16 ≤ 140737488355328 := by omega
theorem below_app {w wr w' : World} {e : TypeId} {g cap K : Nat} {xs : List Value} (h : wr.ownsRow w.heap.size e 2 (.slice (some ⟨g, 0, none⟩) K cap) K xs) (hb : Below w.heap.size w wr) (hg : wr.grownBy w' (Value.slice (some ⟨g, 0, none⟩) K cap).ownBlock) : Below w.heap.size w w' := by
  refine ⟨hg.os.trans hb.os, hg.tape.trans hb.tape, hg.output.trans hb.output, Nat.le_trans hb.size hg.size, fun k hk => ?_⟩
  have hgge : w.heap.size ≤ g := (h.lt g rfl).1
  refine (hg.block k (Nat.lt_of_lt_of_le hk hb.size) ?_).trans (hb.block k hk)
  intro e
  simp [Value.ownBlock] at e
  omega

/-- What Concat answers. -/
def CatPost (w : World) (na nb : Nat) (XA YA XB YB : Nat → Int) (e : Ending) (w' : World) : Prop := ∃ h cap N : Nat, N = na + nb ∧ e = .returned (.slice (some ⟨h, 0, none⟩) N cap) ∧ w.heap.size ≤ h ∧ TabAt w' h 0 N (kX (tl na XA YA ++ tl nb XB YB)) (kY (tl na XA YA ++ tl nb XB YB)) ∧ Below w.heap.size w w'
set_option maxRecDepth 100000 in
set_option maxHeartbeats 4000000 in
theorem cconcat (g ba oa na ca bb ob nb cb : Nat) (XA YA XB YB : Nat → Int) (w : World) (hA : TabAt w ba oa na XA YA) (hB : TabAt w bb ob nb XB YB) (h1 : 1 ≤ na) (h2 : na ≤ 100) (h3 : 1 ≤ nb) (h4 : nb ≤ 100)
    (hg : g < w.heap.size) (c0 : w.cell? ⟨g, 0, none⟩ = some (.slice (some ⟨ba, oa, none⟩) na ca)) (c1 : w.cell? ⟨g, 1, none⟩ = some (.slice (some ⟨bb, ob, none⟩) nb cb)) :
    Calls Tryz.prog 20 #[.slice (some ⟨g, 0, none⟩) 2 2] w (CatPost w na nb XA YA XB YB) := by
  obtain ⟨N, hN⟩ : ∃ N, N = na + nb := ⟨_, rfl⟩
  have HN := Lib.hid hN
  have SG := Lib.hid fun w => cgrow N (by omega) (by omega) w
  have HA := Lib.hid hA
  have HB := Lib.hid hB
  have H2 : Hid (na ≤ 300) := by show na ≤ 300; omega
  have H4 : Hid (nb ≤ 300) := by show nb ≤ 300; omega
  have H1 : Hid (0 < na) := h1
  have H3 : Hid (0 < nb) := h3
  have HC0 := Lib.hid c0
  have HC1 := Lib.hid c1
  have a1 : IntKind.i64.wrap (na : Int) = (na : Int) := by rw [IntKind.wrap_i64]; omega
  have a2 : IntKind.i64.wrap ((na : Int) + (nb : Int)) = (N : Int) := by rw [IntKind.wrap_i64]; omega
  have hba := hA.1
  have hbb := hB.1
  clear h1 h2 h3 h4 hN hA hB
  go_enter Tryz.func20, Tryz.ntmps20
  go_wp2_with fail
  go_loop [3, 11] (fun u v => (u = .int .i64 0 ∧ v = .int .i64 0) ∨ (u = .int .i64 na ∧ v = .int .i64 1) ∨ (u = .int .i64 N ∧ v = .int .i64 2)) (fun _ v => 2 - (intOf v).toNat)
  case atStart => exact .inl ⟨rfl, rfl⟩
  case round =>
    rcases hrel with ⟨rfl, rfl⟩ | ⟨rfl, rfl⟩ | ⟨rfl, rfl⟩
    · go_wp2_with fail
      go_round
      case rel => exact .inr (.inl ⟨rfl, rfl⟩)
      case measure => simp [intOf]
    · go_wp2_with fail
      go_round
      case rel => exact .inr (.inr ⟨rfl, rfl⟩)
      case measure => simp [intOf]
    · go_wp2_with (first | (go_at_call 41; (with_reducible refine (SG.out _).mono ?_); rintro e w1 ⟨C, rfl, hown, hb1⟩))
      have HOW := Lib.hid hown
      have HBW := Lib.hid hb1
      obtain ⟨i0, hi0, hz0, hz1, hz2⟩ := info_parts1 info39
      have HI0 := Lib.hid hi0
      have HZ0 := Lib.hid hz0
      have HZ1 := Lib.hid hz1
      have HZ2 := Lib.hid hz2
      clear hi0 hz0 hz1 hz2 hown hb1 c0 c1
      go_loopw [6, 27] (fun u v wr => ∃ i h C K : Nat, ∃ xs : List Value, Hid ((i = 0 ∧ 0 = K ∧ [] = xs) ∨ (i = 1 ∧ na = K ∧ kc (tl na XA YA) = xs) ∨ (i = 2 ∧ N = K ∧ kc (tl na XA YA) ++ kc (tl nb XB YB) = xs)) ∧ u = .slice (some ⟨h, 0, none⟩) K C ∧ v = .int .i64 i ∧ Hid (wr.ownsRow w.heap.size 47 2 (.slice (some ⟨h, 0, none⟩) K C) K xs ∧ Below w.heap.size w wr)) (fun _ v _ => 2 - (intOf v).toNat)
      case atStart => exact ⟨0, _, C, 0, [], .inl ⟨rfl, rfl, rfl⟩, rfl, rfl, ⟨HOW.out, HBW.out⟩⟩
      case round =>
        obtain ⟨i, h, C, K, xs, Hi, rfl, rfl, HM⟩ := hrel
        have c0 := (HM.out.2.cell (p := ⟨g, 0, none⟩) hg).trans HC0.out
        have c1 := (HM.out.2.cell (p := ⟨g, 1, none⟩) hg).trans HC1.out
        rcases Hi.out with ⟨rfl, rfl, rfl⟩ | ⟨rfl, rfl, rfl⟩ | ⟨rfl, rfl, rfl⟩
        · go_wp2_with (first
            | (at_builtin; refine wpList_append_own_at _ ?g1 (.tmp 31) (.tmp 32) 23 ?g2 (w.heap.size) 47 i0 (.agg #[.int .i64 0, .int .i64 0]) 2 16 Tryz.underlying23 HI0.out HZ0.out HZ1.out HZ2.out ?g3 ?g4 (.slice (some ⟨h, 0, none⟩) 0 C) (0) ([]) ?g5 (HM.out.1) (⟨ba, oa, none⟩) (na) (ca) (kc (tl na XA YA)) ?g7 (by rw [kc_len, tl_len]) (tab_news (HA.out.below HM.out.2 hba)) (kc_cells _) (h63_add (Nat.zero_le _) H2.out) (hby_add (Nat.zero_le _) H2.out) (HM.out.2.size) ?g14
               case g1 => exact rfl
               case g2 => exact rfl
               case g3 => exact rfl
               case g4 => decide
               case g5 => exact rfl
               case g7 => exact rfl
               intro v2 w4 hown2 hgrow2 hnil2 hat2
               obtain ⟨g2, cap2, rfl, hb2, hl2⟩ := hown2.form (Nat.lt_of_lt_of_le H1.out (Nat.le_add_left _ _))
               have HM2 := Lib.hid (And.intro hown2 (below_app HM.out.1 HM.out.2 hgrow2))
               rw [Nat.zero_add, List.nil_append] at HM2
               rw [Nat.zero_add]
               clear hown2 hgrow2 hnil2 hat2))
          go_roundw
          case rel => exact ⟨1, g2, cap2, na, _, .inr (.inl ⟨rfl, rfl, rfl⟩), rfl, rfl, HM2⟩
          case measure => simp [intOf]
        · go_wp2_with (first
            | (at_builtin; refine wpList_append_own_at _ ?k1 (.tmp 31) (.tmp 32) 23 ?k2 (w.heap.size) 47 i0 (.agg #[.int .i64 0, .int .i64 0]) 2 16 Tryz.underlying23 HI0.out HZ0.out HZ1.out HZ2.out ?k3 ?k4 (.slice (some ⟨h, 0, none⟩) na C) (na) (kc (tl na XA YA)) ?k5 (HM.out.1) (⟨bb, ob, none⟩) (nb) (cb) (kc (tl nb XB YB)) ?k7 (by rw [kc_len, tl_len]) (tab_news (HB.out.below HM.out.2 hbb)) (kc_cells _) (h63_add H2.out H4.out) (hby_add H2.out H4.out) (HM.out.2.size) ?k14
               case k1 => exact rfl
               case k2 => exact rfl
               case k3 => exact rfl
               case k4 => decide
               case k5 => exact rfl
               case k7 => exact rfl
               intro v2 w4 hown2 hgrow2 hnil2 hat2
               obtain ⟨g2, cap2, rfl, hb2, hl2⟩ := hown2.form (Nat.lt_of_lt_of_le H3.out (Nat.le_add_left _ _))
               have HM2 := Lib.hid (And.intro hown2 (below_app HM.out.1 HM.out.2 hgrow2))
               rw [← HN.out] at HM2 ⊢
               clear hown2 hgrow2 hnil2 hat2))
          go_roundw
          case rel => exact ⟨2, g2, cap2, N, _, .inr (.inr ⟨rfl, rfl, rfl⟩), rfl, rfl, HM2⟩
          case measure => simp [intOf]
        · go_wp2_with fail
          go_ret
          have hlen : (tl na XA YA ++ tl nb XB YB).length = N := by rw [List.length_append, tl_len, tl_len]; exact HN.out.symm
          have hT := HM.out.1
          rw [← kc_append, ← hlen] at hT
          have hT2 := tab_of_kc hT
          rw [hlen] at hT2
          exact ⟨h, C, N, HN.out, rfl, (HM.out.1.lt h rfl).1, hT2, HM.out.2⟩
end Go.Proofs.YtpeelnjkppdkbaaGreat

/- Merged: MakesP, Places. -/
import Derived.Test.YtpeelnjkppdkbaaGreatSumQ
import Derived.Test.YtpeelnjkppdkbaaGreatArea
import Derived.Deep.QuietTactic
import Derived.Deep.CutBlock
import Derived.Deep.CutRange
import Derived.Deep.Cut
namespace Go.Proofs.YtpeelnjkppdkbaaGreat
set_option linter.unusedVariables false
set_option linter.unusedSimpArgs false

theorem asc_ext : ∀ {l m : List Int}, l.Pairwise (· < ·) → m.Pairwise (· < ·) → (∀ x, x ∈ l ↔ x ∈ m) → l = m
  | [], [], _, _, _ => rfl
  | [], b :: m, _, _, h => absurd ((h b).2 List.mem_cons_self) (by simp)
  | a :: l, [], _, _, h => absurd ((h a).1 List.mem_cons_self) (by simp)
  | a :: l, b :: m, hl, hm, h => by
    rw [List.pairwise_cons] at hl hm
    have e : a = b := by
      rcases List.mem_cons.1 ((h a).1 List.mem_cons_self) with e | h1
      · exact e
      · rcases List.mem_cons.1 ((h b).2 List.mem_cons_self) with e | h2
        · exact e.symm
        · have := hm.1 a h1
          have := hl.1 b h2
          omega
    subst e
    congr 1
    refine asc_ext hl.2 hm.2 fun x => ⟨fun hx => ?_, fun hx => ?_⟩
    · rcases List.mem_cons.1 ((h x).1 (List.mem_cons_of_mem _ hx)) with e | h1
      · have := hl.1 x hx; omega
      · exact h1
    · rcases List.mem_cons.1 ((h x).2 (List.mem_cons_of_mem _ hx)) with e | h1
      · have := hm.1 x hx; omega
      · exact h1

/-- The places when i knots of the one and k of the other are taken. -/
structure Plc (XA XB : Nat → Int) (na nb i k : Nat) (L : List Int) : Prop where
  asc : L.Pairwise (· < ·)
  mem : ∀ x, x ∈ L ↔ (∃ j, j < i ∧ x = XA j) ∨ (∃ j, j < k ∧ x = XB j)
  ltA : i < na → ∀ x ∈ L, x < XA i
  ltB : k < nb → ∀ x ∈ L, x < XB k
  len : L.length ≤ i + k
  leA : i ≤ na
  leB : k ≤ nb
section
variable {XA XB : Nat → Int} {na nb i k : Nat} {L : List Int}
theorem plc_start : Plc XA XB na nb 0 0 [] :=
  ⟨List.Pairwise.nil, fun x => by simp, fun _ x h => absurd h (by simp), fun _ x h => absurd h (by simp), Nat.le_refl _, Nat.zero_le _, Nat.zero_le _⟩
theorem asc_snoc {L : List Int} {a : Int} (h : L.Pairwise (· < ·)) (hl : ∀ x ∈ L, x < a) : (L ++ [a]).Pairwise (· < ·) := by
  rw [List.pairwise_append]
  exact ⟨h, List.pairwise_singleton _ _, fun x hx y hy => by rw [List.mem_singleton.1 hy]; exact hl x hx⟩
theorem Plc.a (h : Plc XA XB na nb i k L) (ha : ∀ p q, p < q → q < na → XA p < XA q) (hi : i < na) (hk : k < nb → XA i < XB k) : Plc XA XB na nb (i + 1) k (L ++ [XA i]) := by
  refine ⟨asc_snoc h.asc (h.ltA hi), fun x => ?_, fun h1 x hx => ?_, fun h1 x hx => ?_, ?_, hi, h.leB⟩
  · rw [List.mem_append, h.mem, List.mem_singleton]
    constructor
    · rintro ((⟨j, hj, e⟩ | e) | e)
      · exact .inl ⟨j, by omega, e⟩
      · exact .inr e
      · exact .inl ⟨i, by omega, e⟩
    · rintro (⟨j, hj, e⟩ | e)
      · rcases Nat.lt_or_ge j i with g | g
        · exact .inl (.inl ⟨j, g, e⟩)
        · have : j = i := by omega
          subst this; exact .inr e
      · exact .inl (.inr e)
  · have := ha i (i + 1) (by omega) h1
    rcases List.mem_append.1 hx with hx | hx
    · have := h.ltA hi x hx; omega
    · rw [List.mem_singleton.1 hx]; exact this
  · rcases List.mem_append.1 hx with hx | hx
    · exact h.ltB h1 x hx
    · rw [List.mem_singleton.1 hx]; exact hk h1
  · have := h.len; simp; omega
theorem Plc.b (h : Plc XA XB na nb i k L) (hb : ∀ p q, p < q → q < nb → XB p < XB q) (hk : k < nb) (hi : i < na → XB k < XA i) : Plc XA XB na nb i (k + 1) (L ++ [XB k]) := by
  refine ⟨asc_snoc h.asc (h.ltB hk), fun x => ?_, fun h1 x hx => ?_, fun h1 x hx => ?_, ?_, h.leA, hk⟩
  · rw [List.mem_append, h.mem, List.mem_singleton]
    constructor
    · rintro ((e | ⟨j, hj, e⟩) | e)
      · exact .inl e
      · exact .inr ⟨j, by omega, e⟩
      · exact .inr ⟨k, by omega, e⟩
    · rintro (e | ⟨j, hj, e⟩)
      · exact .inl (.inl e)
      · rcases Nat.lt_or_ge j k with g | g
        · exact .inl (.inr ⟨j, g, e⟩)
        · have : j = k := by omega
          subst this; exact .inr e
  · rcases List.mem_append.1 hx with hx | hx
    · exact h.ltA h1 x hx
    · rw [List.mem_singleton.1 hx]; exact hi h1
  · have := hb k (k + 1) (by omega) h1
    rcases List.mem_append.1 hx with hx | hx
    · have := h.ltB hk x hx; omega
    · rw [List.mem_singleton.1 hx]; exact this
  · have := h.len; simp; omega
theorem Plc.ab (h : Plc XA XB na nb i k L) (ha : ∀ p q, p < q → q < na → XA p < XA q) (hb : ∀ p q, p < q → q < nb → XB p < XB q) (hi : i < na) (hk : k < nb) (e0 : XA i = XB k) : Plc XA XB na nb (i + 1) (k + 1) (L ++ [XA i]) := by
  refine ⟨asc_snoc h.asc (h.ltA hi), fun x => ?_, fun h1 x hx => ?_, fun h1 x hx => ?_, ?_, hi, hk⟩
  · rw [List.mem_append, h.mem, List.mem_singleton]
    constructor
    · rintro ((⟨j, hj, e⟩ | ⟨j, hj, e⟩) | e)
      · exact .inl ⟨j, by omega, e⟩
      · exact .inr ⟨j, by omega, e⟩
      · exact .inl ⟨i, by omega, e⟩
    · rintro (⟨j, hj, e⟩ | ⟨j, hj, e⟩)
      · rcases Nat.lt_or_ge j i with g | g
        · exact .inl (.inl ⟨j, g, e⟩)
        · have : j = i := by omega
          subst this; exact .inr e
      · rcases Nat.lt_or_ge j k with g | g
        · exact .inl (.inr ⟨j, g, e⟩)
        · have : j = k := by omega
          subst this; exact .inr (by rw [e0]; exact e)
  · have := ha i (i + 1) (by omega) h1
    rcases List.mem_append.1 hx with hx | hx
    · have := h.ltA hi x hx; omega
    · rw [List.mem_singleton.1 hx]; exact this
  · have := hb k (k + 1) (by omega) h1
    rcases List.mem_append.1 hx with hx | hx
    · have := h.ltB hk x hx; omega
    · rw [List.mem_singleton.1 hx]; omega
  · have := h.len; simp; omega
theorem Plc.done (h : Plc XA XB na nb na nb L) (YA YB : Nat → Int) : L = addP na XA YA nb XB YB := by
  obtain ⟨h1, h2, _⟩ := addP_spec na nb XA YA XB YB
  exact asc_ext h.asc h1 fun x => by rw [h.mem, h2]
end
end Go.Proofs.YtpeelnjkppdkbaaGreat

namespace Go.Proofs.YtpeelnjkppdkbaaGreat
open Go.RowKit
set_option linter.unusedVariables false
set_option linter.unusedSimpArgs false

/-- What places answers. -/
def PlacesPost (w : World) (PL : List Int) (n : Nat) (e : Ending) (w' : World) : Prop := ∃ g cap : Nat, e = .returned (.slice (some ⟨g, 0, none⟩) n cap) ∧ XMem w w' g cap PL
/-- What the loop of places keeps. -/
def PMem (w wr : World) (u : Value) (N : Nat) (L : List Int) : Prop := wr.ownsRow w.heap.size 3 1 u N (ic L) ∧ Below w.heap.size w wr
theorem PMem.call {w wr w' : World} {u : Value} {N : Nat} {L : List Int} (h : PMem w wr u N L) (hb : Below wr.heap.size wr w') : PMem w w' u N L := ⟨own_below h.1 hb, below_step h.2 hb⟩
theorem PMem.app {w wr w' : World} {u v : Value} {N : Nat} {L : List Int} {x : Int} (h : PMem w wr u N L) {cs : Array Value} (hown : w'.ownsRow w.heap.size 3 1 v (N + 1) (ic L ++ [.int .i64 x])) (hg : (wr.alloc (.cells cs 3)).grownBy w' u.ownBlock) : PMem w w' v (N + 1) (L ++ [x]) :=
  ⟨by rw [ic_append]; exact hown, below_own (h.1.alloc _) (h.2.alloc h.2.size _) hg⟩
set_option maxRecDepth 100000 in
set_option maxHeartbeats 4000000 in
theorem rplaces (ba oa na ca bb ob nb cb n : Nat) (XA YA XB YB : Nat → Int) (PL : List Int) (hPL : PL = addP na XA YA nb XB YB) (hn : n = PL.length) (h1 : 1 ≤ na) (h2 : na ≤ 100) (h3 : 1 ≤ nb) (h4 : nb ≤ 100)
    (sA : ∀ p q, p < q → q < na → XA p < XA q) (sB : ∀ p q, p < q → q < nb → XB p < XB q) (w : World) (hA : TabAt w ba oa na XA YA) (hB : TabAt w bb ob nb XB YB) :
    Calls Tryz.prog 28 #[.slice (some ⟨ba, oa, none⟩) na ca, .slice (some ⟨bb, ob, none⟩) nb cb] w (PlacesPost w PL n) := by
  have HA := Lib.hid hA
  have HB := Lib.hid hB
  have hba := hA.1
  have hbb := hB.1
  have SA := Lib.hid sA
  have SB := Lib.hid sB
  have HPL := Lib.hid hPL
  have HN := Lib.hid hn
  have H2 : Hid (1 ≤ na ∧ na ≤ 100 ∧ 1 ≤ nb ∧ nb ≤ 100) := ⟨h1, h2, h3, h4⟩
  clear hA hB sA sB hPL hn h1 h2 h3 h4
  obtain ⟨HI0, hi0, hz0, hz1, hz2⟩ := info_parts1 info3
  have HI1 := Lib.hid hi0
  have HI2 := Lib.hid hz0
  have HI3 := Lib.hid hz1
  have HI4 := Lib.hid hz2
  clear hi0 hz0 hz1 hz2
  go_enter Tryz.func28, Tryz.ntmps28
  go_wp2_with fail
  go_loopw [5, 6, 7] (fun u v x wr => ∃ (i k N : Nat) (L : List Int), Hid (Plc XA XB na nb i k L) ∧ Hid (N = L.length) ∧ v = .int .i64 i ∧ x = .int .i64 k ∧ Hid (PMem w wr u N L)) (fun _ v x _ => na + nb - ((intOf v).toNat + (intOf x).toNat))
  case atStart => exact ⟨0, 0, 0, [], plc_start, rfl, rfl, rfl, World.ownsRow_nil _ _ _ _, Below.refl _ _⟩
  case round =>
    obtain ⟨i, k, N, L, HP, HL, rfl, rfl, HM⟩ := hrel
    have HN300 : Hid (N ≤ 300) := by show N ≤ 300; have := HL.out; have := HP.out.len; have := HP.out.leA; have := HP.out.leB; have := H2.out; omega
    have b2 := H2.out
    by_cases hi : i < na
    · by_cases hk : k < nb
      · rcases Int.lt_trichotomy (XA i) (XB k) with h | h | h
        · obtain ⟨i', hi'⟩ : ∃ z, z = i + 1 := ⟨_, rfl⟩
          have x0 : IntKind.i64.wrap ((i : Int) + 1) = (i' : Int) := by rw [IntKind.wrap_i64]; omega
          have HMS : Hid (na + nb - ((intOf (Value.int .i64 (i' : Int))).toNat + (intOf (Value.int .i64 (k : Int))).toNat) < na + nb - ((intOf (Value.int .i64 (i : Int))).toNat + (intOf (Value.int .i64 (k : Int))).toNat)) := by show _ < _; simp [intOf]; omega
          have A0 : decide ((i : Int) < (na : Int)) = true := decide_eq_true (by omega)
          have A1 : decide (i < na) = true := decide_eq_true hi
          have A2 : (0 : Int) ≤ (i : Int) := by omega
          have A3 : (i : Int) < (na : Int) := by omega
          have B0 : decide ((k : Int) < (nb : Int)) = true := decide_eq_true (by omega)
          have B1 : decide (k < nb) = true := decide_eq_true hk
          have B2 : (0 : Int) ≤ (k : Int) := by omega
          have B3 : (k : Int) < (nb : Int) := by omega
          have B4 : ((k : Int) == (nb : Int)) = false := by simp <;> omega
          have B5 : decide (k = nb) = false := decide_eq_false (by omega)
          have HP2 : Hid (Plc XA XB na nb i' k (L ++ [XA i])) := by rw [hi']; exact HP.out.a SA.out hi (fun _ => h)
          obtain ⟨xa, hxa⟩ : ∃ z, z = XA i := ⟨_, rfl⟩
          have RA : Hid (∀ w', Below w.heap.size w w' → w'.cell? ⟨ba, oa + i * 2, none⟩ = some (.int .i64 xa)) := fun w' h => by rw [hxa]; exact ((HA.out.below h hba).2 i hi).1
          obtain ⟨xb, hxb⟩ : ∃ z, z = XB k := ⟨_, rfl⟩
          have RB : Hid (∀ w', Below w.heap.size w w' → w'.cell? ⟨bb, ob + k * 2, none⟩ = some (.int .i64 xb)) := fun w' h => by rw [hxb]; exact ((HB.out.below h hbb).2 k hk).1
          have C0 : decide (xa ≤ xb) = true := decide_eq_true (by omega)
          have C1 : (xa == xb) = false := by simp <;> omega
          have C2 : decide (xa = xb) = false := decide_eq_false (by omega)
          rw [← hxa] at HP2
          clear hi' h hxa hxb hi hk b2
          go_wp2_with fail
          have hxa := RA.out wr HM.out.2
          have hxb := RB.out wr HM.out.2
          go_cut [40] from 18 to 39 (fun s wx => s = .bool true ∧ PMem w wx u5 N L)
          case first =>
            go_quiet (fail)
            go_wp2_with fail
            go_meet
            exact ⟨by simp [*], HM.out.call (by (repeat' (first | assumption | exact Below.refl _ _ | exact Below.size (by assumption) | (refine Below.setCell ?_ ?_ _) | (refine Below.alloc ?_ ?_ _) | (refine Below.drew ?_) | (refine below_drewN ?_ _) | (refine Below.trans ?_ (Below.mono ‹Below _ _ _› ?_)) | omega | (simp; done) | (simp; omega) | (simp at *; omega))))⟩
          case rest =>
            obtain ⟨rfl, hmx⟩ := hcut
            generalize wc = wx at hmx ⊢
            have HMX := Lib.hid hmx
            clear hmx
            clear hxa hxb
            have hxa := RA.out wx HMX.out.2
            have hxb := RB.out wx HMX.out.2
            go_wp2_with fail
            go_cut [57] from 41 to 56 (fun s wy => s = .bool false ∧ PMem w wy u5 N L)
            case first =>
              go_quiet (fail)
              go_wp2_with fail
              go_meet
              exact ⟨by simp [*], HMX.out.call (by (repeat' (first | assumption | exact Below.refl _ _ | exact Below.size (by assumption) | (refine Below.setCell ?_ ?_ _) | (refine Below.alloc ?_ ?_ _) | (refine Below.drew ?_) | (refine below_drewN ?_ _) | (refine Below.trans ?_ (Below.mono ‹Below _ _ _› ?_)) | omega | (simp; done) | (simp; omega) | (simp at *; omega))))⟩
            case rest =>
              obtain ⟨rfl, hmy⟩ := hcut
              generalize wc = wy at hmy ⊢
              have HMY := Lib.hid hmy
              clear hmy
              clear hxa hxb
              have hxa := RA.out wy HMY.out.2
              have hxb := RB.out wy HMY.out.2
              go_wp2_with (first
                | (at_builtin; refine wpList_append_own_at _ ?paa (.tmp 60) (.tmp 66) 49 ?pab (w.heap.size) 3 HI0 (.int .i64 0) 1 8 Tryz.underlying49 HI1.out HI2.out HI3.out HI4.out ?pac ?pad (u5) (N) (ic L) ?pae (HMY.out.1.alloc _) (⟨wy.heap.size, 0, none⟩) (1) (1) ([.int .i64 xa]) ?pag (rfl) (World.news_of_block (cs := #[.int .i64 xa]) (t := 3) (fr := (0, 0)) (heap_alloc_new _ _)) ((by simp [Value.oneCell'])) (h63_i HN300.out) (hby_i HN300.out) (Nat.le_trans HMY.out.2.size (by simp)) ?pah
                   case paa => exact rfl
                   case pab => exact rfl
                   case pac => exact rfl
                   case pad => decide
                   case pae => exact rfl
                   case pag => exact rfl
                   intro v2 w4 hown2 hgrow2 hnil2 hat2
                   have HM4 := Lib.hid (HMY.out.app hown2 hgrow2)
                   clear hown2 hgrow2 hnil2 hat2))
              go_roundw
              case rel => exact ⟨i', k, N + 1, L ++ [xa], HP2, by show N + 1 = _; rw [List.length_append, HL.out]; rfl, rfl, rfl, HM4⟩
              case measure => exact HMS.out
        · obtain ⟨i', hi'⟩ : ∃ z, z = i + 1 := ⟨_, rfl⟩
          have x0 : IntKind.i64.wrap ((i : Int) + 1) = (i' : Int) := by rw [IntKind.wrap_i64]; omega
          obtain ⟨k', hk'⟩ : ∃ z, z = k + 1 := ⟨_, rfl⟩
          have x1 : IntKind.i64.wrap ((k : Int) + 1) = (k' : Int) := by rw [IntKind.wrap_i64]; omega
          have HMS : Hid (na + nb - ((intOf (Value.int .i64 (i' : Int))).toNat + (intOf (Value.int .i64 (k' : Int))).toNat) < na + nb - ((intOf (Value.int .i64 (i : Int))).toNat + (intOf (Value.int .i64 (k : Int))).toNat)) := by show _ < _; simp [intOf]; omega
          have A0 : decide ((i : Int) < (na : Int)) = true := decide_eq_true (by omega)
          have A1 : decide (i < na) = true := decide_eq_true hi
          have A2 : (0 : Int) ≤ (i : Int) := by omega
          have A3 : (i : Int) < (na : Int) := by omega
          have B0 : decide ((k : Int) < (nb : Int)) = true := decide_eq_true (by omega)
          have B1 : decide (k < nb) = true := decide_eq_true hk
          have B2 : (0 : Int) ≤ (k : Int) := by omega
          have B3 : (k : Int) < (nb : Int) := by omega
          have B4 : ((k : Int) == (nb : Int)) = false := by simp <;> omega
          have B5 : decide (k = nb) = false := decide_eq_false (by omega)
          have HP2 : Hid (Plc XA XB na nb i' k' (L ++ [XA i])) := by rw [hi', hk']; exact HP.out.ab SA.out SB.out hi hk h
          obtain ⟨xa, hxa⟩ : ∃ z, z = XA i := ⟨_, rfl⟩
          have RA : Hid (∀ w', Below w.heap.size w w' → w'.cell? ⟨ba, oa + i * 2, none⟩ = some (.int .i64 xa)) := fun w' h => by rw [hxa]; exact ((HA.out.below h hba).2 i hi).1
          obtain ⟨xb, hxb⟩ : ∃ z, z = XB k := ⟨_, rfl⟩
          have RB : Hid (∀ w', Below w.heap.size w w' → w'.cell? ⟨bb, ob + k * 2, none⟩ = some (.int .i64 xb)) := fun w' h => by rw [hxb]; exact ((HB.out.below h hbb).2 k hk).1
          have hab : xb = xa := by omega
          rw [hab] at RB
          have C0 : decide (xa ≤ xa) = true := decide_eq_true (Int.le_refl _)
          rw [← hxa] at HP2
          clear hi' hk' h hxa hxb hi hk b2 hab
          go_wp2_with fail
          have hxa := RA.out wr HM.out.2
          have hxb := RB.out wr HM.out.2
          go_cut [40] from 18 to 39 (fun s wx => s = .bool true ∧ PMem w wx u5 N L)
          case first =>
            go_quiet (fail)
            go_wp2_with fail
            go_meet
            exact ⟨by simp [*], HM.out.call (by (repeat' (first | assumption | exact Below.refl _ _ | exact Below.size (by assumption) | (refine Below.setCell ?_ ?_ _) | (refine Below.alloc ?_ ?_ _) | (refine Below.drew ?_) | (refine below_drewN ?_ _) | (refine Below.trans ?_ (Below.mono ‹Below _ _ _› ?_)) | omega | (simp; done) | (simp; omega) | (simp at *; omega))))⟩
          case rest =>
            obtain ⟨rfl, hmx⟩ := hcut
            generalize wc = wx at hmx ⊢
            have HMX := Lib.hid hmx
            clear hmx
            clear hxa hxb
            have hxa := RA.out wx HMX.out.2
            have hxb := RB.out wx HMX.out.2
            go_wp2_with fail
            go_cut [57] from 41 to 56 (fun s wy => s = .bool true ∧ PMem w wy u5 N L)
            case first =>
              go_quiet (fail)
              go_wp2_with fail
              go_meet
              exact ⟨by simp [*], HMX.out.call (by (repeat' (first | assumption | exact Below.refl _ _ | exact Below.size (by assumption) | (refine Below.setCell ?_ ?_ _) | (refine Below.alloc ?_ ?_ _) | (refine Below.drew ?_) | (refine below_drewN ?_ _) | (refine Below.trans ?_ (Below.mono ‹Below _ _ _› ?_)) | omega | (simp; done) | (simp; omega) | (simp at *; omega))))⟩
            case rest =>
              obtain ⟨rfl, hmy⟩ := hcut
              generalize wc = wy at hmy ⊢
              have HMY := Lib.hid hmy
              clear hmy
              clear hxa hxb
              have hxa := RA.out wy HMY.out.2
              have hxb := RB.out wy HMY.out.2
              go_wp2_with (first
                | (at_builtin; refine wpList_append_own_at _ ?pba (.tmp 60) (.tmp 66) 49 ?pbb (w.heap.size) 3 HI0 (.int .i64 0) 1 8 Tryz.underlying49 HI1.out HI2.out HI3.out HI4.out ?pbc ?pbd (u5) (N) (ic L) ?pbe (HMY.out.1.alloc _) (⟨wy.heap.size, 0, none⟩) (1) (1) ([.int .i64 xa]) ?pbg (rfl) (World.news_of_block (cs := #[.int .i64 xa]) (t := 3) (fr := (0, 0)) (heap_alloc_new _ _)) ((by simp [Value.oneCell'])) (h63_i HN300.out) (hby_i HN300.out) (Nat.le_trans HMY.out.2.size (by simp)) ?pbh
                   case pba => exact rfl
                   case pbb => exact rfl
                   case pbc => exact rfl
                   case pbd => decide
                   case pbe => exact rfl
                   case pbg => exact rfl
                   intro v2 w4 hown2 hgrow2 hnil2 hat2
                   have HM4 := Lib.hid (HMY.out.app hown2 hgrow2)
                   clear hown2 hgrow2 hnil2 hat2))
              go_roundw
              case rel => exact ⟨i', k', N + 1, L ++ [xa], HP2, by show N + 1 = _; rw [List.length_append, HL.out]; rfl, rfl, rfl, HM4⟩
              case measure => exact HMS.out
        · obtain ⟨k', hk'⟩ : ∃ z, z = k + 1 := ⟨_, rfl⟩
          have x1 : IntKind.i64.wrap ((k : Int) + 1) = (k' : Int) := by rw [IntKind.wrap_i64]; omega
          have HMS : Hid (na + nb - ((intOf (Value.int .i64 (i : Int))).toNat + (intOf (Value.int .i64 (k' : Int))).toNat) < na + nb - ((intOf (Value.int .i64 (i : Int))).toNat + (intOf (Value.int .i64 (k : Int))).toNat)) := by show _ < _; simp [intOf]; omega
          have A0 : decide ((i : Int) < (na : Int)) = true := decide_eq_true (by omega)
          have A1 : decide (i < na) = true := decide_eq_true hi
          have A2 : (0 : Int) ≤ (i : Int) := by omega
          have A3 : (i : Int) < (na : Int) := by omega
          have B0 : decide ((k : Int) < (nb : Int)) = true := decide_eq_true (by omega)
          have B1 : decide (k < nb) = true := decide_eq_true hk
          have B2 : (0 : Int) ≤ (k : Int) := by omega
          have B3 : (k : Int) < (nb : Int) := by omega
          have B4 : ((k : Int) == (nb : Int)) = false := by simp <;> omega
          have B5 : decide (k = nb) = false := decide_eq_false (by omega)
          have HP2 : Hid (Plc XA XB na nb i k' (L ++ [XB k])) := by rw [hk']; exact HP.out.b SB.out hk (fun _ => h)
          obtain ⟨xa, hxa⟩ : ∃ z, z = XA i := ⟨_, rfl⟩
          have RA : Hid (∀ w', Below w.heap.size w w' → w'.cell? ⟨ba, oa + i * 2, none⟩ = some (.int .i64 xa)) := fun w' h => by rw [hxa]; exact ((HA.out.below h hba).2 i hi).1
          obtain ⟨xb, hxb⟩ : ∃ z, z = XB k := ⟨_, rfl⟩
          have RB : Hid (∀ w', Below w.heap.size w w' → w'.cell? ⟨bb, ob + k * 2, none⟩ = some (.int .i64 xb)) := fun w' h => by rw [hxb]; exact ((HB.out.below h hbb).2 k hk).1
          have C0 : decide (xa ≤ xb) = false := decide_eq_false (by omega)
          have C1 : (xa == xb) = false := by simp <;> omega
          have C2 : decide (xa = xb) = false := decide_eq_false (by omega)
          rw [← hxb] at HP2
          clear hk' h hxa hxb hi hk b2
          go_wp2_with fail
          have hxa := RA.out wr HM.out.2
          have hxb := RB.out wr HM.out.2
          go_cut [40] from 18 to 39 (fun s wx => s = .bool false ∧ PMem w wx u5 N L)
          case first =>
            go_quiet (fail)
            go_wp2_with fail
            go_meet
            exact ⟨by simp [*], HM.out.call (by (repeat' (first | assumption | exact Below.refl _ _ | exact Below.size (by assumption) | (refine Below.setCell ?_ ?_ _) | (refine Below.alloc ?_ ?_ _) | (refine Below.drew ?_) | (refine below_drewN ?_ _) | (refine Below.trans ?_ (Below.mono ‹Below _ _ _› ?_)) | omega | (simp; done) | (simp; omega) | (simp at *; omega))))⟩
          case rest =>
            obtain ⟨rfl, hmx⟩ := hcut
            generalize wc = wx at hmx ⊢
            have HMX := Lib.hid hmx
            clear hmx
            clear hxa hxb
            have hxa := RA.out wx HMX.out.2
            have hxb := RB.out wx HMX.out.2
            go_wp2_with (first
              | (at_builtin; refine wpList_append_own_at _ ?pca (.tmp 70) (.tmp 76) 49 ?pcb (w.heap.size) 3 HI0 (.int .i64 0) 1 8 Tryz.underlying49 HI1.out HI2.out HI3.out HI4.out ?pcc ?pcd (u5) (N) (ic L) ?pce (HMX.out.1.alloc _) (⟨wx.heap.size, 0, none⟩) (1) (1) ([.int .i64 xb]) ?pcg (rfl) (World.news_of_block (cs := #[.int .i64 xb]) (t := 3) (fr := (0, 0)) (heap_alloc_new _ _)) ((by simp [Value.oneCell'])) (h63_i HN300.out) (hby_i HN300.out) (Nat.le_trans HMX.out.2.size (by simp)) ?pch
                 case pca => exact rfl
                 case pcb => exact rfl
                 case pcc => exact rfl
                 case pcd => decide
                 case pce => exact rfl
                 case pcg => exact rfl
                 intro v2 w4 hown2 hgrow2 hnil2 hat2
                 have HM4 := Lib.hid (HMX.out.app hown2 hgrow2)
                 clear hown2 hgrow2 hnil2 hat2))
            go_roundw
            case rel => exact ⟨i, k', N + 1, L ++ [xb], HP2, by show N + 1 = _; rw [List.length_append, HL.out]; rfl, rfl, rfl, HM4⟩
            case measure => exact HMS.out
      · obtain rfl : k = nb := by have := HP.out.leB; omega
        obtain ⟨i', hi'⟩ : ∃ z, z = i + 1 := ⟨_, rfl⟩
        have x0 : IntKind.i64.wrap ((i : Int) + 1) = (i' : Int) := by rw [IntKind.wrap_i64]; omega
        have HMS : Hid (na + k - ((intOf (Value.int .i64 (i' : Int))).toNat + (intOf (Value.int .i64 (k : Int))).toNat) < na + k - ((intOf (Value.int .i64 (i : Int))).toNat + (intOf (Value.int .i64 (k : Int))).toNat)) := by show _ < _; simp [intOf]; omega
        have A0 : decide ((i : Int) < (na : Int)) = true := decide_eq_true (by omega)
        have A1 : decide (i < na) = true := decide_eq_true hi
        have A2 : (0 : Int) ≤ (i : Int) := by omega
        have A3 : (i : Int) < (na : Int) := by omega
        have B0 : decide ((k : Int) < (k : Int)) = false := by simp
        have B1 : decide (k < k) = false := by simp
        have HP2 : Hid (Plc XA XB na k i' k (L ++ [XA i])) := by rw [hi']; exact HP.out.a SA.out hi (fun h => absurd h hk)
        obtain ⟨xa, hxa⟩ : ∃ z, z = XA i := ⟨_, rfl⟩
        have RA : Hid (∀ w', Below w.heap.size w w' → w'.cell? ⟨ba, oa + i * 2, none⟩ = some (.int .i64 xa)) := fun w' h => by rw [hxa]; exact ((HA.out.below h hba).2 i hi).1
        rw [← hxa] at HP2
        clear hi' hxa hi hk b2
        go_wp2_with fail
        have hxa := RA.out wr HM.out.2
        go_cut [40] from 18 to 39 (fun s wx => s = .bool true ∧ PMem w wx u5 N L)
        case first =>
          go_quiet (fail)
          go_wp2_with fail
          go_meet
          exact ⟨by simp [*], HM.out.call (by (repeat' (first | assumption | exact Below.refl _ _ | exact Below.size (by assumption) | (refine Below.setCell ?_ ?_ _) | (refine Below.alloc ?_ ?_ _) | (refine Below.drew ?_) | (refine below_drewN ?_ _) | (refine Below.trans ?_ (Below.mono ‹Below _ _ _› ?_)) | omega | (simp; done) | (simp; omega) | (simp at *; omega))))⟩
        case rest =>
          obtain ⟨rfl, hmx⟩ := hcut
          generalize wc = wx at hmx ⊢
          have HMX := Lib.hid hmx
          clear hmx
          clear hxa
          have hxa := RA.out wx HMX.out.2
          go_wp2_with fail
          go_cut [57] from 41 to 56 (fun s wy => s = .bool false ∧ PMem w wy u5 N L)
          case first =>
            go_quiet (fail)
            go_wp2_with fail
            go_meet
            exact ⟨by simp [*], HMX.out.call (by (repeat' (first | assumption | exact Below.refl _ _ | exact Below.size (by assumption) | (refine Below.setCell ?_ ?_ _) | (refine Below.alloc ?_ ?_ _) | (refine Below.drew ?_) | (refine below_drewN ?_ _) | (refine Below.trans ?_ (Below.mono ‹Below _ _ _› ?_)) | omega | (simp; done) | (simp; omega) | (simp at *; omega))))⟩
          case rest =>
            obtain ⟨rfl, hmy⟩ := hcut
            generalize wc = wy at hmy ⊢
            have HMY := Lib.hid hmy
            clear hmy
            clear hxa
            have hxa := RA.out wy HMY.out.2
            go_wp2_with (first
              | (at_builtin; refine wpList_append_own_at _ ?pda (.tmp 60) (.tmp 66) 49 ?pdb (w.heap.size) 3 HI0 (.int .i64 0) 1 8 Tryz.underlying49 HI1.out HI2.out HI3.out HI4.out ?pdc ?pdd (u5) (N) (ic L) ?pde (HMY.out.1.alloc _) (⟨wy.heap.size, 0, none⟩) (1) (1) ([.int .i64 xa]) ?pdg (rfl) (World.news_of_block (cs := #[.int .i64 xa]) (t := 3) (fr := (0, 0)) (heap_alloc_new _ _)) ((by simp [Value.oneCell'])) (h63_i HN300.out) (hby_i HN300.out) (Nat.le_trans HMY.out.2.size (by simp)) ?pdh
                 case pda => exact rfl
                 case pdb => exact rfl
                 case pdc => exact rfl
                 case pdd => decide
                 case pde => exact rfl
                 case pdg => exact rfl
                 intro v2 w4 hown2 hgrow2 hnil2 hat2
                 have HM4 := Lib.hid (HMY.out.app hown2 hgrow2)
                 clear hown2 hgrow2 hnil2 hat2))
            go_roundw
            case rel => exact ⟨i', k, N + 1, L ++ [xa], HP2, by show N + 1 = _; rw [List.length_append, HL.out]; rfl, rfl, rfl, HM4⟩
            case measure => exact HMS.out
    · by_cases hk : k < nb
      · obtain rfl : i = na := by have := HP.out.leA; omega
        obtain ⟨k', hk'⟩ : ∃ z, z = k + 1 := ⟨_, rfl⟩
        have x1 : IntKind.i64.wrap ((k : Int) + 1) = (k' : Int) := by rw [IntKind.wrap_i64]; omega
        have HMS : Hid (i + nb - ((intOf (Value.int .i64 (i : Int))).toNat + (intOf (Value.int .i64 (k' : Int))).toNat) < i + nb - ((intOf (Value.int .i64 (i : Int))).toNat + (intOf (Value.int .i64 (k : Int))).toNat)) := by show _ < _; simp [intOf]; omega
        have B0 : decide ((k : Int) < (nb : Int)) = true := decide_eq_true (by omega)
        have B1 : decide (k < nb) = true := decide_eq_true hk
        have B2 : (0 : Int) ≤ (k : Int) := by omega
        have B3 : (k : Int) < (nb : Int) := by omega
        have B4 : ((k : Int) == (nb : Int)) = false := by simp <;> omega
        have B5 : decide (k = nb) = false := decide_eq_false (by omega)
        have A0 : decide ((i : Int) < (i : Int)) = false := by simp
        have A1 : decide (i < i) = false := by simp
        have HP2 : Hid (Plc XA XB i nb i k' (L ++ [XB k])) := by rw [hk']; exact HP.out.b SB.out hk (fun h => absurd h hi)
        obtain ⟨xb, hxb⟩ : ∃ z, z = XB k := ⟨_, rfl⟩
        have RB : Hid (∀ w', Below w.heap.size w w' → w'.cell? ⟨bb, ob + k * 2, none⟩ = some (.int .i64 xb)) := fun w' h => by rw [hxb]; exact ((HB.out.below h hbb).2 k hk).1
        rw [← hxb] at HP2
        clear hk' hxb hi hk b2
        go_wp2_with fail
        have hxb := RB.out wr HM.out.2
        go_cut [40] from 18 to 39 (fun s wx => s = .bool false ∧ PMem w wx u5 N L)
        case first =>
          go_quiet (fail)
          go_wp2_with fail
          go_meet
          exact ⟨by simp [*], HM.out.call (by (repeat' (first | assumption | exact Below.refl _ _ | exact Below.size (by assumption) | (refine Below.setCell ?_ ?_ _) | (refine Below.alloc ?_ ?_ _) | (refine Below.drew ?_) | (refine below_drewN ?_ _) | (refine Below.trans ?_ (Below.mono ‹Below _ _ _› ?_)) | omega | (simp; done) | (simp; omega) | (simp at *; omega))))⟩
        case rest =>
          obtain ⟨rfl, hmx⟩ := hcut
          generalize wc = wx at hmx ⊢
          have HMX := Lib.hid hmx
          clear hmx
          clear hxb
          have hxb := RB.out wx HMX.out.2
          go_wp2_with (first
            | (at_builtin; refine wpList_append_own_at _ ?pea (.tmp 70) (.tmp 76) 49 ?peb (w.heap.size) 3 HI0 (.int .i64 0) 1 8 Tryz.underlying49 HI1.out HI2.out HI3.out HI4.out ?pec ?ped (u5) (N) (ic L) ?pee (HMX.out.1.alloc _) (⟨wx.heap.size, 0, none⟩) (1) (1) ([.int .i64 xb]) ?peg (rfl) (World.news_of_block (cs := #[.int .i64 xb]) (t := 3) (fr := (0, 0)) (heap_alloc_new _ _)) ((by simp [Value.oneCell'])) (h63_i HN300.out) (hby_i HN300.out) (Nat.le_trans HMX.out.2.size (by simp)) ?peh
               case pea => exact rfl
               case peb => exact rfl
               case pec => exact rfl
               case ped => decide
               case pee => exact rfl
               case peg => exact rfl
               intro v2 w4 hown2 hgrow2 hnil2 hat2
               have HM4 := Lib.hid (HMX.out.app hown2 hgrow2)
               clear hown2 hgrow2 hnil2 hat2))
          go_roundw
          case rel => exact ⟨i, k', N + 1, L ++ [xb], HP2, by show N + 1 = _; rw [List.length_append, HL.out]; rfl, rfl, rfl, HM4⟩
          case measure => exact HMS.out
      · obtain rfl : i = na := by have := HP.out.leA; omega
        obtain rfl : k = nb := by have := HP.out.leB; omega
        have A0 : decide ((i : Int) < (i : Int)) = false := by simp
        have A1 : decide (i < i) = false := by simp
        have B0 : decide ((k : Int) < (k : Int)) = false := by simp
        have B1 : decide (k < k) = false := by simp
        have eL : L = PL := by rw [HPL.out]; exact HP.out.done YA YB
        have eN : N = n := by rw [HL.out, HN.out, eL]
        have hpos : 0 < N := by
          rw [HL.out]
          have hm : XA 0 ∈ L := (HP.out.mem (XA 0)).2 (.inl ⟨0, by omega, rfl⟩)
          exact List.length_pos_of_mem hm
        obtain ⟨gx, capx, rfl, hgx, hcx⟩ := HM.out.1.form hpos
        have HX : Hid (PlacesPost w PL n (.returned (.slice (some ⟨gx, 0, none⟩) N capx)) wr) := ⟨gx, capx, by rw [eN], by
          have h := HM.out
          rw [eL, eN, HN.out] at h
          exact ⟨h.1, h.2⟩⟩
        clear eL eN hpos hgx hcx b2 hi hk
        go_wp2_with fail
        go_ret
        exact HX.out
end Go.Proofs.YtpeelnjkppdkbaaGreat

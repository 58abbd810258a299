/- digraph.reach, digraph.Reach: what is reached from some nodes. -/
import Derived.Test.YtghefgifhebniaaGreatDoorDgX
import Derived.Test.YtghefgifhebniaaGreatDoorDgV
import Derived.Test.YtghefgifhebniaaGreatDoorMgZ
namespace Go.Proofs.YtghefgifhebniaaGreatDoor
open Go.RowKit Go.Sort
set_option linter.unusedVariables false
set_option linter.unusedSimpArgs false
theorem infoB : (Tryz.prog.info? 4).map (fun i => (i.zero, i.size, i.bytes)) = some (some (.bool false), 1, 1) := by kernel_rfl
def bcs (n : Nat) (o : Nat → Bool) : Array Value := ((List.range n).map fun v => Value.bool (o v)).toArray
theorem bcs_at {n v : Nat} {o : Nat → Bool} (h : v < n) : (bcs n o)[v]? = some (.bool (o v)) := by simp [bcs, h]
def bset (o : Nat → Bool) (i : Nat) : Nat → Bool := fun v => o v || decide (v = i)
theorem bcs_set (n : Nat) (o : Nat → Bool) (i : Nat) : (bcs n o).setIfInBounds i (.bool true) = bcs n (bset o i) := by
 unfold bcs
 have h := upd_map n (fun v => Value.bool (o v)) i (.bool true)
 rw [h]
 congr 1
 apply List.map_congr_left
 intro v _
 unfold bset
 by_cases e : v = i <;> simp [e]
def cntF (n : Nat) (o : Nat → Bool) : Nat := ((List.range n).filter fun v => !(o v)).length
theorem cntF_le (n : Nat) (o : Nat → Bool) : cntF n o ≤ n := by
 unfold cntF
 exact Nat.le_trans (List.length_filter_le _ _) (by simp)
theorem cntF_set {o : Nat → Bool} {i : Nat} (ho : o i = false) : ∀ n, cntF n (bset o i) + (if i < n then 1 else 0) = cntF n o := by
 intro n
 induction n with
 | zero => simp [cntF]
 | succ n ih =>
   have e : ∀ p : Nat → Bool, cntF (n + 1) p = cntF n p + (if p n = true then 0 else 1) := fun p => by
    unfold cntF
    rw [List.range_succ, List.filter_append, List.length_append]
    cases h : p n <;> simp [h]
   rw [e, e, ← ih]
   by_cases h : n = i
   · subst h
     have h1 : bset o n n = true := by simp [bset]
     rw [h1, ho]; simp
   · have h1 : bset o i n = o n := by simp [bset, h]
     rw [h1]
     by_cases h2 : i < n
     · rw [if_pos h2, if_pos (show i < n + 1 by omega)]; omega
     · rw [if_neg h2, if_neg (show ¬ i < n + 1 by omega)]; omega
def BlAt (w : World) (b n : Nat) (o : Nat → Bool) : Prop := b < w.heap.size ∧ ∀ v, v < n → w.cell? ⟨b, v, none⟩ = some (.bool (o v))
theorem BlAt.below {w w' : World} {b n : Nat} {o : Nat → Bool} (h : BlAt w b n o) (hb : Below w.heap.size w w') : BlAt w' b n o :=
 ⟨Nat.lt_of_lt_of_le h.1 hb.size, fun v hv => (hb.cell (p := ⟨b, v, none⟩) h.1).trans (h.2 v hv)⟩
theorem blk_bl {w : World} {b n : Nat} {o : Nat → Bool} (h : Blk w b 4 (bcs n o)) : BlAt w b n o := ⟨h.lt, fun v hv => by rw [h.cell v]; exact bcs_at hv⟩
theorem run_app_zero (A0 : Option Addr) (N cap : Nat) (hN : N ≤ cap) (A : Option Addr) (c : Nat) (ty : TypeId) (w : World) : (Builtin.append_ #[32, 32] ty #[.slice A0 N cap, .slice A 0 c]).run Tryz.prog w = .ok (.slice A0 N cap) w := by
 obtain ⟨i0, hi, hz0, hs0, hby⟩ := info_parts1 infoI
 cases A <;> cases A0 <;> simp [Builtin.append_, run_underlying Tryz.underlying32, sizeOf, typeInfo, hi, Builtin.lenOf, Builtin.firstCells, loadCells, loadCellsFrom, storeCells, hN]
theorem own_pop {w : World} {B N1 N g cap : Nat} {St : List Int} {z : Int} (hN : N1 = N + 1) (h : w.ownsRow B 3 1 (.slice (some ⟨g, 0, none⟩) N1 cap) N1 (ic (St ++ [z]))) : w.ownsRow B 3 1 (.slice (some ⟨g, 0, none⟩) N cap) N (ic St) ∧ N = St.length ∧ w.cell? ⟨g, N, none⟩ = some (.int .i64 z) ∧ N + 1 ≤ cap := by
 subst hN
 have hl : N = St.length := by have := h.1; rw [ic_len, List.length_append, List.length_singleton] at this; omega
 rcases h.2 with ⟨hv, _⟩ | ⟨g', cap', cur, hv, hg, hb, hnc, hcm, hs, ht⟩
 · cases hv
 · cases hv
   refine ⟨⟨by rw [ic_len, hl, Nat.mul_one], .inr ⟨g, cap, cur, rfl, hg, hb, by omega, hcm, hs, ?_⟩⟩, hl, ?_, hnc⟩
   · rw [Nat.mul_one] at ht ⊢
     have h2 : (cur.toList.take (N + 1)).take N = ic St := by
        rw [ht, ic_append, hl, ← ic_len St]
        exact List.take_left
     rwa [List.take_take, Nat.min_eq_left (by omega)] at h2
   · rw [h.cellAt N (by omega), ic_append, hl, ← ic_len St]
     simp [ic]
theorem app_len {n k : Nat} (h : n ≤ 400000) (h2 : k ≤ 1000) : n + k ≤ maxLen := by simp only [maxLen]; omega
theorem app_by {n k : Nat} (h : n ≤ 400000) (h2 : k ≤ 1000) : (n + k) * 8 ≤ 140737488355328 := by omega
def ReachPost (n : Nat) (X Y : Nat → Int) (m : Nat) (S : Int → Prop) (w : World) (e : Ending) (w' : World) : Prop :=
 ∃ (O : Nat) (o : Nat → Bool), e = .returned (.slice (some ⟨O, 0, none⟩) n n) ∧ w.heap.size ≤ O ∧ BlAt w' O n o ∧ (∀ v, v < n → (o v = true ↔ Rch X Y m S (v : Int))) ∧ Below w.heap.size w w'
def srcP (f : Nat) (C : Nat → Int) (z : Int) : Prop := ∃ j, j < f ∧ C j = z
theorem list_snoc {α : Type} {L : List α} {N : Nat} (h : L.length = N + 1) : ∃ M z, L = M ++ [z] := by
 rcases List.eq_nil_or_concat L with e | ⟨M, z, e⟩
 · rw [e] at h; simp at h
 · exact ⟨M, z, by rw [e, List.concat_eq_append]⟩
theorem RcI.drop {X Y : Nat → Int} {m : Nat} {S : Int → Prop} {o : Nat → Bool} {st : List Int} (h : RcI X Y m S o st) : RcI X Y m S o st := h
theorem rch_bd {n : Nat} {X Y : Nat → Int} {m : Nat} {S : Int → Prop} (hE : EdOK n X Y m) (hS : ∀ z, S z → 0 ≤ z ∧ z < n) {z : Int} (h : Rch X Y m S z) : 0 ≤ z ∧ z < n := h.closed (P := fun z => 0 ≤ z ∧ z < n) hS (fun k hk _ => hE.y k hk)
theorem bset_or (o : Nat → Bool) (i : Nat) : ∀ v, bset o i v = (o v || decide (v = i)) := fun v => rfl
set_option maxRecDepth 100000 in
set_option maxHeartbeats 4000000 in
theorem dreach (b n m : Nat) (A : Option Addr) (f c : Nat) (X Y C : Nat → Int) (w : World) (hn : n ≤ 300) (hm : m ≤ 1000) (hf : f ≤ 1000) (hE : EdOK n X Y m) (hA : AfIn w b n (fun i => nx X Y m (i : Int))) (hF : IntIn w A f C) (hC : ∀ j, j < f → 0 ≤ C j ∧ C j < n) :
 Calls Tryz.prog 147 #[.slice (some ⟨b, 0, none⟩) n n, .slice A f c] w (ReachPost n X Y m (srcP f C) w) := by
 obtain ⟨i0, hi0, hz0, hz1, hz2⟩ := info_parts1 infoI
 have HI0 := Lib.hid hi0
 have HZ0 := Lib.hid hz0
 have HZ1 := Lib.hid hz1
 have HZ2 := Lib.hid hz2
 have HN := Lib.hid hn
 have HM := Lib.hid hm
 have HE := Lib.hid hE
 have HA := Lib.hid hA
 have HSB : Hid (∀ z, srcP f C z → 0 ≤ z ∧ z < n) := fun z ⟨j, hj, e⟩ => by have := hC j hj; omega
 have hmk := mk_run 47 4 n 1 (.bool false) infoB Tryz.underlying47 rfl (by omega) (by omega)
 obtain ⟨Z, hZ⟩ : ∃ Z, ((List.range n).map fun _ => Value.bool false).toArray = Z := ⟨_, rfl⟩
 rw [hZ] at hmk
 have HZ : Hid (Z = bcs n fun _ => false) := hZ.symm
 -- the stack at the start
 have SC : Hid (∀ w', Below w.heap.size w w' → Calls Tryz.prog 174 #[.slice A f c] w' fun e w'' => ∃ u, e = .returned u ∧ w''.ownsRow w'.heap.size 3 1 u f (ic ((List.range f).map C)) ∧ Below w'.heap.size w' w'') := by
  intro w' hb
  by_cases h0 : f = 0
  · rw [h0]
    cases A with
    | none =>
      refine (Tryz.slices_Clone_int_nil 0 c w').mono ?_
      rintro e w'' ⟨rfl, rfl⟩
      exact ⟨_, rfl, World.ownsRow_nil _ _ _ _, Below.refl _ _⟩
    | some a =>
      refine (Tryz.slices_Clone_int_zero a c w').mono ?_
      rintro e w'' ⟨v', rfl, h2, _, h3⟩
      exact ⟨v', rfl, h2, h3⟩
  · have ht := hF.below (Nat.le_refl _) hb
    rcases ht.2 with h1 | ⟨b', off', hA', hb', hc'⟩
    · exact absurd h1 h0
    · rw [hA']
      have hl : ((List.range f).map C).length = f := by simp
      refine (Tryz.slices_Clone_int b' off' f c ((List.range f).map C) w' (by omega) (by omega) (fun j hj => by
         rw [hl] at hj
         rw [hc' j hj]; simp [List.getD, hj])).mono ?_
      rintro e w'' ⟨v', rfl, h2, _, h3⟩
      refine ⟨v', rfl, ?_, h3⟩
      rwa [List.take_of_length_le (by omega)] at h2
 have HF := Lib.hid hf
 clear hi0 hz0 hz1 hz2 hn hm hE hA hZ hF hC hf
 go_enter Tryz.func147, Tryz.ntmps147
 go_wp2_with (first
  | (go_at_call 174
     with_reducible refine (SC.out _ ?_).mono ?_
     focus (exact (Below.refl _ w).alloc (Nat.le_refl _) _)
     rintro e w1 ⟨u1, rfl, ho1, hb1⟩
     have HO1 := Lib.hid ho1
     have HB1 := Lib.hid hb1
     clear ho1 hb1))
 clear hmk SC
 have HBL : Hid (Blk w1 w.heap.size 4 (bcs n fun _ => false)) := by
  have := (Blk.new w 4 Z).call HB1.out
  rwa [HZ.out] at this
 have HOW : Hid (w1.ownsRow (w.heap.size + 1) 3 1 u1 f (ic ((List.range f).map C))) := by show World.ownsRow _ _ _ _ _ _ _; have := HO1.out; simpa using this
 have HWB : Hid (Below w.heap.size w w1) := ((Below.refl _ w).alloc (Nat.le_refl _) _).trans (HB1.out.mono (by simp))
 have HRC : Hid (RcI X Y m (srcP f C) (fun _ => false) ((List.range f).map C)) := by
  refine ⟨fun v hv => (by cases hv), fun z hz => ?_, fun v hv => .inr ?_, fun a b' ha _ => (by cases ha)⟩
  · obtain ⟨j, hj, e⟩ := List.mem_map.1 hz
    exact .src ⟨j, List.mem_range.1 hj, e⟩
  · obtain ⟨j, hj, e⟩ := hv
    exact List.mem_map.2 ⟨j, List.mem_range.2 hj, e⟩
 have HCN : Hid (cntF n (fun _ => false) ≤ 300) := Nat.le_trans (cntF_le _ _) HN.out
 go_loopg [6] (cntF n (fun _ => false) * 1001 + f) (fun gm u wr => ∃ (N : Nat) (St : List Int) (o : Nat → Bool), Hid (wr.ownsRow (w.heap.size + 1) 3 1 u N (ic St)) ∧ Hid (Blk wr w.heap.size 4 (bcs n o)) ∧ Hid (Below w.heap.size w wr) ∧ Hid (RcI X Y m (srcP f C) o St) ∧ Hid (cntF n o * 1001 + N ≤ gm ∧ N + cntF n o * 1000 ≤ 301000))
 case atStart => exact ⟨f, _, _, HOW, HBL, HWB, HRC, ⟨Nat.le_refl _, by have := HCN.out; have := HF.out; omega⟩⟩
 case round =>
  clear HO1 HB1 HBL HOW HWB HRC HCN
  obtain ⟨N, St, o, HO, HB, HW, HR, HG⟩ := hrel
  obtain ⟨A0, cap, rfl⟩ := nr_form HO.out
  have hNl : N = St.length := by have := HO.out.1; rw [ic_len] at this; omega
  by_cases hN0 : N = 0
  · subst hN0
    have HST : Hid (St = []) := List.eq_nil_of_length_eq_zero hNl.symm
    have T0 : decide ((0 : Int) < ((0 : Nat) : Int)) = false := by decide
    clear hNl
    go_wp2_with fail
    go_ret
    refine ⟨w.heap.size, o, rfl, Nat.le_refl _, blk_bl HB.out, fun v hv => ?_, HW.out⟩
    have hr := HR.out
    rw [HST.out] at hr
    exact hr.done HE.out.x HE.out.y (fun z hz => (HSB.out z hz).1) v
  · obtain ⟨N1, hN1⟩ : ∃ N1, N1 = N := ⟨_, rfl⟩
    subst hN1
    obtain ⟨N, hNN⟩ : ∃ N, N1 = N + 1 := ⟨N1 - 1, by omega⟩
    obtain ⟨St', z, hSt⟩ := list_snoc (hNl.symm.trans hNN)
    subst hSt
    have hz := rch_bd HE.out HSB.out (HR.out.stk z (by simp))
    obtain ⟨i, hi⟩ : ∃ i : Nat, z = (i : Int) := ⟨z.toNat, by omega⟩
    subst hi
    have hin : i < n := by omega
    rcases HO.out.2 with ⟨hv, h0⟩ | ⟨g, cap', cur, hv, _⟩
    · exact absurd h0 hN0
    cases hv
    obtain ⟨ho, hNL, hci, hcap⟩ := own_pop hNN HO.out
    have HOP := Lib.hid ho
    have T0 : decide ((0 : Int) < (N1 : Int)) = true := decide_eq_true (by omega)
    have T0' : decide (0 < N1) = true := decide_eq_true (by omega)
    have x0 : IntKind.i64.wrap ((N1 : Int) - 1) = (N : Int) := by have := HG.out.2; rw [IntKind.wrap_i64]; omega
    have k0 : (0 : Int) ≤ (N : Int) := by omega
    have k1 : (N : Int) < (N1 : Int) := by omega
    have k2 : (N : Int) ≤ (cap : Int) := by omega
    have k2' : N ≤ cap := by omega
    have k3 : (0 : Int) ≤ (i : Int) := by omega
    have k4 : (i : Int) < (n : Int) := by omega
    have cO := HB.out.cell i
    rw [bcs_at hin] at cO
    have fO := HB.out.frozen i
    have HIN := Lib.hid hin
    have HK2 := Lib.hid k2'
    clear ho hNl hz hcap hin hNL hN0
    by_cases hoi : o i = true
    · rw [hoi] at cO
      have HR' := Lib.hid (HR.out.seen hoi)
      have HG' := HG.out
      have HGM : Hid (cntF n o * 1001 + N < gk) := by show _ < _; omega
      have HGN : Hid (N + cntF n o * 1000 ≤ 301000) := by show _ ≤ _; omega
      clear hoi HG' HG HR HO hNN
      go_wp2_with fail
      go_roundg (cntF n o * 1001 + N)
      case measure => exact HGM.out
      case rel => exact ⟨N, St', o, HOP.out, HB, HW, HR', Nat.le_refl _, HGN.out⟩
    · have hof : o i = false := by simpa using hoi
      rw [hof] at cO
      have HR' := Lib.hid (HR.out.new (bset_or o i))
      have hcs := cntF_set hof n
      rw [if_pos HIN.out] at hcs
      obtain ⟨Ai, ci, hca, hlc, hrow⟩ := (HA.out.below HW.out).2 i HIN.out
      dsimp only at hca hlc hrow
      have hbw : b < w.heap.size := HA.out.1
      have hl1 : (nx X Y m (i : Int)).length ≤ 1000 := Nat.le_trans (nx_len X Y m _) HM.out
      obtain ⟨K, hK⟩ : ∃ K, (nx X Y m (i : Int)).length = K := ⟨_, rfl⟩
      rw [hK] at hca hlc hrow hl1
      have HGM : Hid (cntF n (bset o i) * 1001 + (N + K) < gk) := by show _ < _; have := HG.out; omega
      have HGN : Hid (N + K + cntF n (bset o i) * 1000 ≤ 301000) := by show _ ≤ _; have := HG.out; omega
      have HKL := Lib.hid hK
      have HN4 : Hid (N ≤ 400000 ∧ K ≤ 1000) := ⟨by have := HG.out; omega, hl1⟩
      -- behind the store
      have hbS : Below wr.heap.size wr wr := Below.refl _ _
      have HB5 : Hid (Blk (wr.setCell ⟨w.heap.size, i, none⟩ (.bool true)) w.heap.size 4 (bcs n (bset o i))) := by have := HB.out.set_ i (.bool true); rwa [bcs_set] at this
      have HW5 : Hid (Below w.heap.size w (wr.setCell ⟨w.heap.size, i, none⟩ (.bool true))) := HW.out.setCell (p := ⟨w.heap.size, i, none⟩) (Nat.le_refl _) _
      have HO5 : Hid ((wr.setCell ⟨w.heap.size, i, none⟩ (.bool true)).ownsRow (w.heap.size + 1) 3 1 (.slice (some ⟨g, 0, none⟩) N cap) N (ic St')) := HOP.out.kept (gr_set wr w.heap.size i _) (.inr (own_blk_ne HOP.out HB.out (by decide)))
      obtain ⟨A5, c5, hca5, hlc5, hrow5⟩ := (HA.out.below HW5.out).2 i HIN.out
      dsimp only at hca5 hlc5 hrow5
      have hAA : A5 = Ai ∧ c5 = ci := by
       have e1 := (World.cell?_setCell_far wr ⟨w.heap.size, i, none⟩ ⟨b, i, none⟩ (.bool true) (by show w.heap.size ≠ b; omega)).symm.trans hca5
       rw [hca, hK] at e1
       simp only [Option.some.injEq, Value.slice.injEq] at e1
       exact ⟨e1.1.symm, e1.2.2.symm⟩
      obtain ⟨rfl, rfl⟩ := hAA
      rw [hK] at hca5 hrow5
      have hsz : w.heap.size ≤ (wr.setCell ⟨w.heap.size, i, none⟩ (.bool true)).heap.size := HW5.out.size
      have HB0 : Hid (w.heap.size + 1 ≤ (wr.setCell ⟨w.heap.size, i, none⟩ (.bool true)).heap.size) := HB5.out.lt
      clear hcs hl1 hrow hlc5 hoi hof hK hbS hsz HOP HR HO HG HB HW hNN
      by_cases hnil : K = 0
      · subst hnil
        have HR0 := Lib.hid fun ty => run_app_zero (some ⟨g, 0, none⟩) N cap HK2.out A5 c5 ty (wr.setCell ⟨w.heap.size, i, none⟩ (.bool true))
        have HNIL : Hid (nx X Y m (i : Int) = []) := List.eq_nil_of_length_eq_zero HKL.out
        clear hrow5
        cases A5
        all_goals
         go_wp2_with (at_builtin; refine Lib.wpList_append_run _ rfl _ _ _ _ rfl _ _ rfl rfl _ _ (HR0.out _) ?_)
         go_roundg (cntF n (bset o i) * 1001 + (N + 0))
         case measure => exact HGM.out
         case rel => exact ⟨N, St', bset o i, HO5, HB5, HW5, (by have := HR'.out; rw [HNIL.out, List.append_nil] at this; exact this), Nat.le_refl _, by have := HGN.out; omega⟩
      · rcases hrow5 with h5 | ⟨gi, h5, hgi, hcell⟩
        · exact absurd (by have := HKL.out; rw [h5] at this; exact this.symm) hnil
        subst h5
        have HNW : Hid (∀ j u, (ic (nx X Y m (i : Int)))[j]? = some u → (wr.setCell ⟨w.heap.size, i, none⟩ (.bool true)).cell? ((⟨gi, 0, none⟩ : Addr).add j) = some u) := fun j u hj => by
         have hjl : j < (nx X Y m (i : Int)).length := by
            have := (List.getElem?_eq_some_iff.1 hj).1; rwa [ic_len] at this
         have := hcell j (by rw [← HKL.out]; exact hjl)
         rw [Addr.add_lit, Nat.zero_add, this, ← hj]
         simp [ic, List.getD, hjl]
        clear hcell hgi
        go_wp2_with (first
         | (at_builtin; refine wpList_append_own_at _ ?q1_1 (.tmp 35) (.tmp 39) 32 ?q1_2 (w.heap.size + 1) 3 i0 (.int .i64 0) 1 8 Tryz.underlying32 HI0.out HZ0.out HZ1.out HZ2.out ?q1_3 ?q1_4 (.slice (some ⟨g, 0, none⟩) N cap) N (ic St') ?q1_5 HO5.out ⟨gi, 0, none⟩ K c5 (ic (nx X Y m (i : Int))) ?q1_7 (by rw [ic_len, HKL.out, Nat.mul_one]) HNW.out (ints_oneCell _ _) (app_len HN4.out.1 HN4.out.2) (app_by HN4.out.1 HN4.out.2) HB0.out ?q1_14
            case q1_1 => exact rfl
            case q1_2 => exact rfl
            case q1_3 => exact rfl
            case q1_4 => decide
            case q1_5 => exact rfl
            case q1_7 => exact rfl
            intro u2 w7 hown2 hgrow2 hnil2 hat2
            have HO7 := Lib.hid hown2
            have HG7 := Lib.hid hgrow2
            clear hown2 hgrow2 hnil2 hat2))
        go_roundg (cntF n (bset o i) * 1001 + (N + K))
        case measure => exact HGM.out
        case rel =>
         refine ⟨N + K, St' ++ nx X Y m (i : Int), bset o i, by rw [ic_append]; exact HO7.out, ?_, ?_, HR', Nat.le_refl _, HGN.out⟩
         · exact HB5.out.grown HG7.out (fun e => own_blk_ne HO5.out HB5.out (by decide) e.symm)
         · exact below_grown HW5.out HW5.out.size HG7.out (fun g' e => by have := (HO5.out.lt g' e).1; omega)
end Go.Proofs.YtghefgifhebniaaGreatDoor

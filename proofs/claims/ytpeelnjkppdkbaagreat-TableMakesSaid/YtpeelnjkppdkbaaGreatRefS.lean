/- The reference's sum of two tables. -/
import Derived.Test.YtpeelnjkppdkbaaGreatRefR
import Derived.Test.YtpeelnjkppdkbaaGreatPlaces
import Derived.Test.YtpeelnjkppdkbaaGreatSumR
import Derived.Deep.RegionHeld3
import Derived.Deep.AppendLies
namespace Go.Proofs.YtpeelnjkppdkbaaGreat
open Go.RowKit
set_option linter.unusedVariables false
set_option linter.unusedSimpArgs false

set_option maxRecDepth 100000 in
set_option maxHeartbeats 4000000 in
theorem radd (ba oa na ma ca bb ob nb mb cb n : Nat) (XA YA XB YB : Nat → Int) (PL : List Int) (hPL : PL = addP na XA YA nb XB YB) (hn : n = PL.length) (w : World) (ea : na = ma + 1) (eb : nb = mb + 1) (hvA : TabOK na XA YA) (hvB : TabOK nb XB YB) (hA : TabAt w ba oa na XA YA) (hB : TabAt w bb ob nb XB YB) :
    Calls Tryz.prog 9 #[.slice (some ⟨ba, oa, none⟩) na ca, .slice (some ⟨bb, ob, none⟩) nb cb] w (AddPost w n (fun k => PL.getD k 0) (fun k => addY XA YA ma XB YB mb (PL.getD k 0))) := by
  have aA := asc_of (ea ▸ hvA)
  have aB := asc_of (eb ▸ hvB)
  have sA : ∀ p q, p < q → q < na → XA p < XA q := fun p q h1 h2 => aA.lt (by omega) h1
  have sB : ∀ p q, p < q → q < nb → XB p < XB q := fun p q h1 h2 => aB.lt (by omega) h1
  have hS := sumOf na nb ma mb XA YA XB YB
  rw [← hPL, ← hn] at hS
  have S0 := Lib.hid fun w ht => rvalid ba oa na ca XA YA w hvA.1 hvA.2.1 ht
  have S1 := Lib.hid fun w ht => rvalid bb ob nb cb XB YB w hvB.1 hvB.2.1 ht
  have SP := Lib.hid fun w hA hB => rplaces ba oa na ca bb ob nb cb n XA YA XB YB PL hPL hn hvA.1 hvA.2.1 hvB.1 hvB.2.1 sA sB w hA hB
  have hbX : ∀ k, k < n → inB (PL.getD k 0) := fun k hk => by
    rcases hS.mem k hk with ⟨j, hj, e⟩ | ⟨j, hj, e⟩
    · have := (hvA.2.2 j hj).1; rw [← e] at this; exact this
    · have := (hvB.2.2 j hj).1; rw [← e] at this; exact this
  have HBX := Lib.hid hbX
  have hp : 0 < n := by
    obtain ⟨i, hi, _⟩ := hS.memA 0 (by omega)
    omega
  obtain ⟨P, hP⟩ : ∃ P : Nat → Int, P = fun k => PL.getD k 0 := ⟨_, rfl⟩
  obtain ⟨Q, hQ⟩ : ∃ Q : Nat → Int, Q = fun k => addY XA YA ma XB YB mb (PL.getD k 0) := ⟨_, rfl⟩
  have HPF := Lib.hid hP
  have HQF := Lib.hid hQ
  have tabS : Hid (n ≤ 100 → (∀ k, k < n → inB (Q k)) → TabOK n P Q) := fun h100 hin => by
    rw [hP, hQ]
    rw [hQ] at hin
    exact hS.tab hvA hvB ea eb aA aB h100 hin
  rw [← hP, ← hQ]
  have tv := tabB_true hvA
  have tv' := tabB_true hvB
  have hle : n ≤ 200 := by have := hS.le; have := hvA.2.1; have := hvB.2.1; omega
  have HLE := Lib.hid hle
  have HP := Lib.hid hp
  have HA := Lib.hid hA
  have HB := Lib.hid hB
  have HVA := Lib.hid hvA
  have HVB := Lib.hid hvB
  have EA := Lib.hid ea
  have EB := Lib.hid eb
  have HPN := Lib.hid hn
  have hba := hA.1
  have hbb := hB.1
  clear hA hB hvA hvB aA aB sA sB hS hPL hn hbX hp hle ea eb
  clear hP hQ
  go_enter Tryz.func9, Tryz.ntmps9
  go_upto_region 4 with (first
    | ((go_at_call 27; (with_reducible refine (S0.out _ ?_).mono ?_); (focus (exact HA.out.below (by (repeat' (first | assumption | exact Below.refl _ _ | exact Below.size (by assumption) | (refine Below.setCell ?_ ?_ _) | (refine Below.alloc ?_ ?_ _) | (refine Below.drew ?_) | (refine below_drewN ?_ _) | (refine Below.trans ?_ (Below.mono ‹Below _ _ _› ?_)) | omega | (simp; done) | (simp; omega) | (simp at *; omega)))) hba)); rintro e w1 ⟨rfl, hb1⟩; obtain ⟨hc1, hf1⟩ := bcell hb1; have hz1 := hb1.size; (try simp at hz1); (try simp only [heap_drew, World.heap_drewN] at hz1); (try simp only [heap_drew, World.heap_drewN] at hc1); (try simp only [heap_drew, World.heap_drewN] at hf1); (try have hs1 := Nat.lt_of_succ_le hz1); (try have hs2 := Nat.lt_of_succ_lt hs1); (try have y0 : w.heap.size < w1.heap.size := by omega); (try have y1 : w.heap.size + 1 < w1.heap.size := by omega); (try have y2 : w.heap.size + 2 < w1.heap.size := by omega)))
    | ((go_at_call 27; (with_reducible refine (S1.out _ ?_).mono ?_); (focus (exact HB.out.below (by (repeat' (first | assumption | exact Below.refl _ _ | exact Below.size (by assumption) | (refine Below.setCell ?_ ?_ _) | (refine Below.alloc ?_ ?_ _) | (refine Below.drew ?_) | (refine below_drewN ?_ _) | (refine Below.trans ?_ (Below.mono ‹Below _ _ _› ?_)) | omega | (simp; done) | (simp; omega) | (simp at *; omega)))) hbb)); rintro e w2 ⟨rfl, hb2⟩; obtain ⟨hc2, hf2⟩ := bcell hb2; have hz2 := hb2.size; (try simp at hz2); (try simp only [heap_drew, World.heap_drewN] at hz2); (try simp only [heap_drew, World.heap_drewN] at hc2); (try simp only [heap_drew, World.heap_drewN] at hf2); (try have hs1 := Nat.lt_of_succ_le hz2); (try have hs2 := Nat.lt_of_succ_lt hs1); (try have y0 : w.heap.size < w2.heap.size := by omega); (try have y1 : w.heap.size + 1 < w2.heap.size := by omega); (try have y2 : w.heap.size + 2 < w2.heap.size := by omega))
       have HB2 : Hid (Below w.heap.size w w2) := (by show Below _ _ _; (repeat' (first | assumption | exact Below.refl _ _ | exact Below.size (by assumption) | (refine Below.setCell ?_ ?_ _) | (refine Below.alloc ?_ ?_ _) | (refine Below.drew ?_) | (refine below_drewN ?_ _) | (refine Below.trans ?_ (Below.mono ‹Below _ _ _› ?_)) | omega | (simp; done) | (simp; omega) | (simp at *; omega))))
       clear hc1 hf1 hb1 hc2 hf2 hb2)
    | (go_at_call 28
       with_reducible refine (SP.out _ ?_ ?_).mono ?_
       focus (exact HA.out.below HB2.out hba)
       focus (exact HB.out.below HB2.out hbb)
       rintro e w3 ⟨gx, capx, rfl, hx3⟩
       have HX := Lib.hid hx3
       have HB3 := Lib.hid (below_step HB2.out hx3.2)
       clear hx3))
  by_cases h100 : 100 < n
  · have t4 : decide ((100 : Int) < (n : Int)) = true := decide_eq_true (by omega)
    have t5 : decide (100 < n) = true := decide_eq_true h100
    have H5 := Lib.hid h100
    clear h100
    go_wp2_with fail
    go_ret2
    exact .inl ⟨H5.out, rfl, HB3.out⟩
  · have t4 : decide ((100 : Int) < (n : Int)) = false := decide_eq_false (by omega)
    have t5 : decide (100 < n) = false := decide_eq_false h100
    have H5 : Hid (n ≤ 100) := by show n ≤ 100; omega
    clear h100
    obtain ⟨KI0, ki0, kz0, kz1, kz2⟩ := info_parts1 info39
    have KI1 := Lib.hid ki0
    have KI2 := Lib.hid kz0
    have KI3 := Lib.hid kz1
    have KI4 := Lib.hid kz2
    clear ki0 kz0 kz1 kz2
    go_wp2_with fail
    go_loopw [7, 8] (fun u v wr => ∃ j : Nat, Hid (j ≤ n) ∧ v = .int .i64 j ∧ Hid (wr.ownsRow w3.heap.size 47 2 u j (kc (tl j P Q)) ∧ Below w3.heap.size w3 wr)) (fun _ v _ => n - (intOf v).toNat)
    case atStart => exact ⟨0, Nat.zero_le _, rfl, World.ownsRow_nil _ _ _ _, Below.refl _ _⟩
    case round =>
      obtain ⟨j, Hj, rfl, HM⟩ := hrel
      have HBR : Hid (Below w.heap.size w wr) := below_step HB3.out (HM.out.2)
      by_cases hlt : j < n
      · have T1 : decide ((j : Int) < (n : Int)) = true := by simp <;> omega
        have T1' : decide (j < n) = true := decide_eq_true hlt
        obtain ⟨j', hj'⟩ : ∃ z, z = j + 1 := ⟨_, rfl⟩
        have x0 : IntKind.i64.wrap ((j : Int) + 1) = (j' : Int) := by have := H5.out; rw [IntKind.wrap_i64]; omega
        have HJ' : Hid (j' ≤ n) := by show j' ≤ n; omega
        have HJ300 : Hid (j ≤ 300) := by show j ≤ 300; have := H5.out; omega
        have HJS := Lib.hid hj'
        have HMS : Hid (n - (intOf (Value.int .i64 (j' : Int))).toNat < n - (intOf (Value.int .i64 (j : Int))).toNat) := by show _ < _; simp [intOf]; omega
        have k0 : (0 : Int) ≤ (j : Int) := by omega
        have k1 : (j : Int) < (n : Int) := by omega
        obtain ⟨x, hx⟩ : ∃ x, x = P j := ⟨_, rfl⟩
        have HXJ : Hid (P j = x) := hx.symm
        have hxx : x = PL.getD j 0 := by rw [hx, HPF.out]
        have hcx : wr.cell? ⟨gx, j, none⟩ = some (.int .i64 x) := by
          rw [hxx]
          exact (HM.out.2.cell (p := ⟨gx, j, none⟩) (xmem_lt HX.out)).trans (xmem_cell HX.out (by rw [← HPN.out]; exact hlt))
        have HC3 : Hid (w3.cell? ⟨gx, j, none⟩ = some (.int .i64 x)) := by rw [hxx]; exact xmem_cell HX.out (by rw [← HPN.out]; exact hlt)
        have hbx := HBX.out j hlt
        rw [← hxx] at hbx
        have CS := Lib.hid fun w hA hB => rsumt ba oa na ma ca bb ob nb mb cb XA YA XB YB x (by unfold inB at hbx; omega) EA.out EB.out HVA.out HVB.out w hA hB
        have hq : Q j = addY XA YA ma XB YB mb x := by rw [HQF.out, hxx]
        rw [← hq] at CS
        obtain ⟨y, hy⟩ : ∃ y, y = Q j := ⟨_, rfl⟩
        have HQJ : Hid (Q j = y) := hy.symm
        rw [← hy] at CS
        have hgx : gx < wr.heap.size := Nat.lt_of_lt_of_le (xmem_lt HX.out) HM.out.2.size
        have nx := World.new_ne wr ⟨gx, j, none⟩ hcx
        have HMd : Hid (wr.drew.ownsRow w3.heap.size 47 2 u7 j (kc (tl j P Q)) ∧ Below w3.heap.size w3 wr.drew) := ⟨HM.out.1.drew, HM.out.2.drew⟩
        clear hx hxx hbx hq hy hlt hj'
        go_wp2_with fail
        go_region_held3 (fun w' => w'.cell? ⟨gx, j, none⟩ = some (.int .i64 x)) (first
          | exact hcx
          | exact z9
          | exact zA
          | exact (hzz.cell (p := ⟨gx, j, none⟩) (xmem_lt HX.out)).trans HC3.out
          | go_keep) (first
          | (go_at_call 29
             with_reducible refine (CS.out _ ?_ ?_).mono ?_
             focus (exact HA.out.below HBR.out.drew hba)
             focus (exact HB.out.below HBR.out.drew hbb)
             rintro e w9 ⟨rfl, hb9⟩
             have HM9 := Lib.hid (out_call HMd.out hb9)
             have z9 : w9.cell? ⟨gx, j, none⟩ = some (.int .i64 x) := (hb9.cell (p := ⟨gx, j, none⟩) hgx).trans hcx
             have zA : (w9.alloc (Obj.cells #[.int .i64 x, .int .i64 y] 47)).cell? ⟨gx, j, none⟩ = some (.int .i64 x) := by simp [*, World.cell?_alloc_some]
             clear hb9)
          | ((refine step_append_lies _ (by rfl) _ _ _ (by rfl) w3.heap.size 47 KI0 _ 2 16 Tryz.underlying23 KI1.out KI2.out KI3.out KI4.out rfl (by omega) u7 j (kc (tl j P Q)) (by rfl) (HM9.out.1.alloc _) ⟨w9.heap.size, 0, none⟩ 1 1 [.int .i64 x, .int .i64 y] (by rfl) (by rfl) (World.news_of_block (cs := #[.int .i64 x, .int .i64 y]) (t := 47) (fr := (0, 0)) (heap_alloc_new w9 _)) (by simp [Value.oneCell']) (by omega) (h63_le HJ300.out) (hby_le HJ300.out) (base_alloc1 HM9.out.2.size _) (w9.heap.size + 1) (by simp) ?_
              intro gg capg wA hownA hgrowA hatA hltA
              have hzz : Below w3.heap.size w3 wA := below_own (HM9.out.1.alloc _) (HM9.out.2.alloc HM9.out.2.size _) hgrowA)))
        have HM2 : Hid (wA.ownsRow w3.heap.size 47 2 (.slice (some ⟨gg, 0, none⟩) (j + 1) capg) (j + 1) (kc (tl (j + 1) P Q)) ∧ Below w3.heap.size w3 wA) :=
          ⟨by rw [tl_succ, kc_append, kc_one, HQJ.out, HXJ.out]; exact hownA, below_own (HM9.out.1.alloc _) (HM9.out.2.alloc HM9.out.2.size _) hgrowA⟩
        clear hownA hgrowA hatA hltA
        go_wp2_with fail
        go_roundw
        case rel => exact ⟨j', HJ', rfl, by rw [HJS.out]; exact HM2⟩
        case measure => exact HMS.out
      · have e : j = n := by have := Hj.out; omega
        have T1 : decide ((j : Int) < (n : Int)) = false := by simp <;> omega
        have T1' : decide (j < n) = false := decide_eq_false hlt
        have hom := HM.out
        rw [e] at hom
        obtain ⟨go, capo, rfl, hgo, hco⟩ := hom.1.form HP.out
        rw [e] at *
        have HT : Hid (TabAt wr go 0 n P Q) := out_tab hom.1
        have HGE : Hid (w.heap.size ≤ go) := Nat.le_trans HB3.out.size hgo
        have VS := Lib.hid fun w ht => rvalid go 0 n capo P Q w HP.out H5.out ht
        clear hom hgo hco e hlt
        by_cases hin : ∀ k, k < n → inB (Q k)
        · have tv2 := tabB_true (tabS.out H5.out hin)
          have HIN := Lib.hid hin
          clear hin
          go_wp2_with (first | (go_at_call 27; (with_reducible refine (VS.out _ ?_).mono ?_); (focus (exact HT.out)); rintro e w7 ⟨rfl, hb7⟩; obtain ⟨hc7, hf7⟩ := bcell hb7; have hz7 := hb7.size; (try simp at hz7); (try simp only [heap_drew, World.heap_drewN] at hz7); (try simp only [heap_drew, World.heap_drewN] at hc7); (try simp only [heap_drew, World.heap_drewN] at hf7); (try have hs1 := Nat.lt_of_succ_le hz7); (try have hs2 := Nat.lt_of_succ_lt hs1); (try have y0 : w.heap.size < w7.heap.size := by omega); (try have y1 : w.heap.size + 1 < w7.heap.size := by omega); (try have y2 : w.heap.size + 2 < w7.heap.size := by omega)))
          go_ret2
          exact .inr (.inr ⟨H5.out, HIN.out, go, capo, rfl, HGE.out, HT.out.below hb7 HT.out.1, below_step HBR.out hb7⟩)
        · have tv2 := tabB_false (X := P) (Y := Q) (n := n) (fun h => hin fun k hk => (h.2.2 k hk).2.1)
          have HIN : Hid (∃ k, k < n ∧ ¬ inB (Q k)) := by
            show ∃ k, k < n ∧ ¬ inB (Q k)
            apply Classical.byContradiction
            intro h
            exact hin fun k hk => Classical.byContradiction fun hq => h ⟨k, hk, hq⟩
          clear hin
          go_wp2_with (first | (go_at_call 27; (with_reducible refine (VS.out _ ?_).mono ?_); (focus (exact HT.out)); rintro e w7 ⟨rfl, hb7⟩; obtain ⟨hc7, hf7⟩ := bcell hb7; have hz7 := hb7.size; (try simp at hz7); (try simp only [heap_drew, World.heap_drewN] at hz7); (try simp only [heap_drew, World.heap_drewN] at hc7); (try simp only [heap_drew, World.heap_drewN] at hf7); (try have hs1 := Nat.lt_of_succ_le hz7); (try have hs2 := Nat.lt_of_succ_lt hs1); (try have y0 : w.heap.size < w7.heap.size := by omega); (try have y1 : w.heap.size + 1 < w7.heap.size := by omega); (try have y2 : w.heap.size + 2 < w7.heap.size := by omega)))
          go_ret2
          exact .inr (.inl ⟨H5.out, HIN.out, rfl, below_step HBR.out hb7⟩)
end Go.Proofs.YtpeelnjkppdkbaaGreat

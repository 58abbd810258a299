/- The sum of two tables, by the package. -/
import Derived.Test.YtapfmbnppeonkaaGreatDoorSortI
import Derived.Test.YtapfmbnppeonkaaGreatDoorMgD
namespace Go.Proofs.YtapfmbnppeonkaaGreatDoor
open Go.RowKit
set_option linter.unusedVariables false
set_option linter.unusedSimpArgs false

def pre (F : Nat → Int) (i : Nat) : List Int := (List.range i).map F
theorem pre_succ (F : Nat → Int) (i : Nat) : pre F (i + 1) = pre F i ++ [F i] := by unfold pre; rw [List.range_succ, List.map_append]; rfl
theorem pre_len (F : Nat → Int) (i : Nat) : (pre F i).length = i := by simp [pre]
theorem ic_append (a b : List Int) : ic (a ++ b) = ic a ++ ic b := by unfold ic; rw [List.map_append]
theorem tl_succ (n : Nat) (X Y : Nat → Int) : tl (n + 1) X Y = tl n X Y ++ [(X n, Y n)] := by unfold tl; rw [List.range_succ, List.map_append]; rfl
/-- The value of the sum at a number. -/
def addY (XA YA : Nat → Int) (ma : Nat) (XB YB : Nat → Int) (mb : Nat) (x : Int) : Int := Val.val XA YA ma x + Val.val XB YB mb x + (if car (Val.rst XA YA ma x).toNat (Val.dn XA ma x) (Val.rst XB YB mb x).toNat (Val.dn XB mb x) then 1 else 0)
/-- The places of the sum's knots. -/
def addP (na : Nat) (XA YA : Nat → Int) (nb : Nat) (XB YB : Nat → Int) : List Int := Lib.compact ((pre (kX (tl na XA YA ++ tl nb XB YB)) (na + nb)).mergeSort fun x y => decide (x ≤ y))
/-- What Add answers where its arguments are right: n knots, P and Q. -/
def AddPost (w : World) (n : Nat) (P Q : Nat → Int) (e : Ending) (w' : World) : Prop :=
  (100 < n ∧ e = .returned (.tuple #[.slice none 0 0, .int .i64 4]) ∧ Below w.heap.size w w') ∨
  (n ≤ 100 ∧ (∃ k, k < n ∧ ¬ inB (Q k)) ∧ e = .returned (.tuple #[.slice none 0 0, .int .i64 5]) ∧ Below w.heap.size w w') ∨
  (n ≤ 100 ∧ (∀ k, k < n → inB (Q k)) ∧ ∃ g cap : Nat, e = .returned (.tuple #[.slice (some ⟨g, 0, none⟩) n cap, .int .i64 0]) ∧ w.heap.size ≤ g ∧ TabAt w' g 0 n P Q ∧ Below w.heap.size w w')
theorem info3 : (Tryz.prog.info? 3).map (fun i => (i.zero, i.size, i.bytes)) = some (some (.int .i64 0), 1, 8) := by kernel_rfl
theorem h63_i {n : Nat} (h : n ≤ 300) : n + 1 ≤ maxLen := by simp only [maxLen]; omega
theorem hby_i {n : Nat} (h : n ≤ 300) : (n + 1) * 8 ≤ 140737488355328 := by omega
theorem csortN (w0 : World) (n : Nat) (zs : List Int) (hn : n = zs.length) (hz : n ≤ 1000) (w : World) (g cap : Nat) (h : XMem w0 w g cap zs) :
    Calls Tryz.prog 38 #[.slice (some ⟨g, 0, none⟩) n cap] w fun e w' => e = .returned (.tuple #[]) ∧ XMem w0 w' g cap (zs.mergeSort fun x y => decide (x ≤ y)) := by
  subst hn; exact csort w0 w g cap zs h hz
theorem ccompactN (w0 : World) (n k : Nat) (zs : List Int) (hn : n = zs.length) (hk : k = (Lib.compact zs).length) (hz : n ≤ 1000) (w : World) (g cap : Nat) (h : XMem w0 w g cap zs) :
    Calls Tryz.prog 39 #[.slice (some ⟨g, 0, none⟩) n cap] w fun e w' => e = .returned (.slice (some ⟨g, 0, none⟩) k cap) ∧ XMem w0 w' g cap (Lib.compact zs) := by
  subst hn; subst hk; exact ccompact w0 w g cap zs h hz

theorem xmem_lt {w0 w : World} {g cap : Nat} {zs : List Int} (h : XMem w0 w g cap zs) : g < w.heap.size := (h.1.lt g rfl).2
theorem xmem_cell {w0 w : World} {g cap k : Nat} {zs : List Int} (h : XMem w0 w g cap zs) (hk : k < zs.length) : w.cell? ⟨g, k, none⟩ = some (.int .i64 (zs.getD k 0)) := by
  refine (h.1.cellAt k (by omega)).trans ?_
  simp [ic, List.getD, hk]
theorem val_in {X Y : Nat → Int} {m : Nat} (x : Int) (hv : TabOK (m + 1) X Y) : inB (Val.val X Y m x) := by
  have ha := asc_of hv
  have g1 := Val.val_ge (x := x) ha
  have g2 := Val.val_le (x := x) ha
  have g3 := in_of hv (by omega : 0 < m + 1)
  have g4 := in_of hv (by omega : m < m + 1)
  unfold inB; omega
theorem out_tab {wr : World} {base g cap n : Nat} {t : TypeId} {P Q : Nat → Int} (h : wr.ownsRow base t 2 (.slice (some ⟨g, 0, none⟩) n cap) n (kc (tl n P Q))) : TabAt wr g 0 n P Q := by
  have h' := h
  rw [show n = (tl n P Q).length from (tl_len n P Q).symm] at h'
  refine ⟨(h.lt g rfl).2, fun k hk => ?_⟩
  obtain ⟨h1, h2⟩ := kc_at (tl n P Q) k (by rw [tl_len]; exact hk)
  obtain ⟨e1, e2⟩ := tl_at (X := P) (Y := Q) hk
  rw [e1] at h1
  rw [e2] at h2
  rw [Nat.zero_add]
  exact ⟨(h.cellAt (k * 2) (by omega)).trans h1, (h.cellAt (k * 2 + 1) (by omega)).trans h2⟩
set_option maxRecDepth 100000 in
set_option maxHeartbeats 4000000 in
theorem tadd (ba oa na ma ca bb ob nb mb cb n : Nat) (XA YA XB YB : Nat → Int) (PL : List Int) (hPL : PL = addP na XA YA nb XB YB) (hn : n = PL.length) (w : World) (ea : na = ma + 1) (eb : nb = mb + 1) (hvA : TabOK na XA YA) (hvB : TabOK nb XB YB) (hA : TabAt w ba oa na XA YA) (hB : TabAt w bb ob nb XB YB) :
    Calls Tryz.prog 17 #[.slice (some ⟨ba, oa, none⟩) na ca, .slice (some ⟨bb, ob, none⟩) nb cb] w (AddPost w n (fun k => PL.getD k 0) (fun k => addY XA YA ma XB YB mb (PL.getD k 0))) := by
  have HPL := Lib.hid hPL
  have HPN := Lib.hid hn
  clear hPL hn
  have S0 := Lib.hid fun w ht => tvalid ba oa na ca XA YA w hvA.1 hvA.2.1 ht
  have S1 := Lib.hid fun w ht => tvalid bb ob nb cb XB YB w hvB.1 hvB.2.1 ht
  have tv := tabB_true hvA
  have tv' := tabB_true hvB
  have n1 := hvA.1
  have n2 := hvA.2.1
  have n3 := hvB.1
  have n4 := hvB.2.1
  have SC := Lib.hid fun (w : World) g hA hB hg c0 c1 => cconcat g ba oa na ca bb ob nb cb XA YA XB YB w hA hB n1 n2 n3 n4 hg c0 c1
  have HA := Lib.hid hA
  have HB := Lib.hid hB
  have HVA := Lib.hid hvA
  have HVB := Lib.hid hvB
  have EA := Lib.hid ea
  have EB := Lib.hid eb
  have H2 := Lib.hid (And.intro n1 (And.intro n2 (And.intro n3 n4)))
  have hba := hA.1
  have hbb := hB.1
  clear hA hB hvA hvB ea eb n1 n2 n3 n4
  go_enter Tryz.func17, Tryz.ntmps17
  go_upto_region 4 with (first | (go_at_call 23; (with_reducible refine (S0.out _ ?_).mono ?_); (focus (exact HA.out.below (by (repeat' (first | assumption | exact Below.refl _ _ | exact Below.size (by assumption) | (refine Below.setCell ?_ ?_ _) | (refine Below.alloc ?_ ?_ _) | (refine Below.drew ?_) | (refine below_drewN ?_ _) | (refine Below.trans ?_ (Below.mono ‹Below _ _ _› ?_)) | omega | (simp; done) | (simp; omega) | (simp at *; omega)))) hba)); rintro e w1 ⟨rfl, hb1⟩; obtain ⟨hc1, hf1⟩ := bcell hb1; have hz1 := hb1.size; (try simp at hz1); (try simp only [heap_drew, World.heap_drewN] at hz1); (try simp only [heap_drew, World.heap_drewN] at hc1); (try simp only [heap_drew, World.heap_drewN] at hf1); (try have hs1 := Nat.lt_of_succ_le hz1); (try have hs2 := Nat.lt_of_succ_lt hs1); (try have y0 : w.heap.size < w1.heap.size := by omega); (try have y1 : w.heap.size + 1 < w1.heap.size := by omega); (try have y2 : w.heap.size + 2 < w1.heap.size := by omega)) | (go_at_call 23; (with_reducible refine (S1.out _ ?_).mono ?_); (focus (exact HB.out.below (by (repeat' (first | assumption | exact Below.refl _ _ | exact Below.size (by assumption) | (refine Below.setCell ?_ ?_ _) | (refine Below.alloc ?_ ?_ _) | (refine Below.drew ?_) | (refine below_drewN ?_ _) | (refine Below.trans ?_ (Below.mono ‹Below _ _ _› ?_)) | omega | (simp; done) | (simp; omega) | (simp at *; omega)))) hbb)); rintro e w2 ⟨rfl, hb2⟩; obtain ⟨hc2, hf2⟩ := bcell hb2; have hz2 := hb2.size; (try simp at hz2); (try simp only [heap_drew, World.heap_drewN] at hz2); (try simp only [heap_drew, World.heap_drewN] at hc2); (try simp only [heap_drew, World.heap_drewN] at hf2); (try have hs1 := Nat.lt_of_succ_le hz2); (try have hs2 := Nat.lt_of_succ_lt hs1); (try have y0 : w.heap.size < w2.heap.size := by omega); (try have y1 : w.heap.size + 1 < w2.heap.size := by omega); (try have y2 : w.heap.size + 2 < w2.heap.size := by omega)))
  have hbw2 : Below w.heap.size w w2 := by (repeat' (first | assumption | exact Below.refl _ _ | exact Below.size (by assumption) | (refine Below.setCell ?_ ?_ _) | (refine Below.alloc ?_ ?_ _) | (refine Below.drew ?_) | (refine below_drewN ?_ _) | (refine Below.trans ?_ (Below.mono ‹Below _ _ _› ?_)) | omega | (simp; done) | (simp; omega) | (simp at *; omega)))
  have HB2 := Lib.hid hbw2
  clear hc1 hf1 hb1 hc2 hf2 hb2 hbw2
  obtain ⟨LL, hLL⟩ : ∃ L, L = tl na XA YA ++ tl nb XB YB := ⟨_, rfl⟩
  have HLL := Lib.hid hLL
  clear hLL
  go_wp2_with (first
    | (go_at_call 37
       with_reducible refine (SC.out _ _ ?_ ?_ ?_ ?_ ?_).mono ?_
       focus (exact HA.out.below (by have := HB2.out; (repeat' (first | assumption | exact Below.refl _ _ | exact Below.size (by assumption) | (refine Below.setCell ?_ ?_ _) | (refine Below.alloc ?_ ?_ _) | (refine Below.drew ?_) | (refine below_drewN ?_ _) | (refine Below.trans ?_ (Below.mono ‹Below _ _ _› ?_)) | omega | (simp; done) | (simp; omega) | (simp at *; omega)))) hba)
       focus (exact HB.out.below (by have := HB2.out; (repeat' (first | assumption | exact Below.refl _ _ | exact Below.size (by assumption) | (refine Below.setCell ?_ ?_ _) | (refine Below.alloc ?_ ?_ _) | (refine Below.drew ?_) | (refine below_drewN ?_ _) | (refine Below.trans ?_ (Below.mono ‹Below _ _ _› ?_)) | omega | (simp; done) | (simp; omega) | (simp at *; omega)))) hbb)
       focus (simp; done)
       focus (simp; done)
       focus (simp; done)
       rintro e w3 ⟨hh, caph, N, hN, rfl, hhge, hT, hb3⟩
       have HB3 : Hid (Below w.heap.size w w3) := by have := HB2.out; show Below _ _ _; (repeat' (first | assumption | exact Below.refl _ _ | exact Below.size (by assumption) | (refine Below.setCell ?_ ?_ _) | (refine Below.alloc ?_ ?_ _) | (refine Below.drew ?_) | (refine below_drewN ?_ _) | (refine Below.trans ?_ (Below.mono ‹Below _ _ _› ?_)) | omega | (simp; done) | (simp; omega) | (simp at *; omega)))
       have HN := Lib.hid hN
       rw [← HLL.out] at hT
       have HT := Lib.hid hT
       have hhlt := hT.1
       clear hN hhge hT hb3))
  obtain ⟨HI0, hi0, hz0, hz1, hz2⟩ := info_parts1 info3
  have HI1 := Lib.hid hi0
  have HI2 := Lib.hid hz0
  have HI3 := Lib.hid hz1
  have HI4 := Lib.hid hz2
  clear hi0 hz0 hz1 hz2
  go_loopw [6, 32] (fun u v wr => ∃ i : Nat, Hid (i ≤ N) ∧ v = .int .i64 i ∧ Hid (wr.ownsRow w3.heap.size 3 1 u i (ic (pre (kX LL) i)) ∧ Below w3.heap.size w3 wr)) (fun _ v _ => N - (intOf v).toNat)
  case atStart => exact ⟨0, Nat.zero_le _, rfl, World.ownsRow_nil _ _ _ _, Below.refl _ _⟩
  case round =>
    obtain ⟨i, Hi, rfl, HM⟩ := hrel
    have HN300 : Hid (N ≤ 200) := by show N ≤ 200; have := HN.out; have := H2.out; omega
    by_cases hlt : i < N
    · have T0 : decide ((i : Int) < (N : Int)) = true := by simp <;> omega
      have T0' : decide (i < N) = true := decide_eq_true hlt
      obtain ⟨i', hi'⟩ : ∃ z, z = i + 1 := ⟨_, rfl⟩
      have x0 : IntKind.i64.wrap ((i : Int) + 1) = (i' : Int) := by have := HN300.out; rw [IntKind.wrap_i64]; omega
      have HI' : Hid (i' ≤ N) := by show i' ≤ N; omega
      have HI300 : Hid (i ≤ 300) := by show i ≤ 300; have := HN300.out; omega
      have HMS : Hid (N - (intOf (Value.int .i64 (i' : Int))).toNat < N - (intOf (Value.int .i64 (i : Int))).toNat) := by show _ < _; simp [intOf]; omega
      have HTr := HT.out.below HM.out.2 hhlt
      have hx1 := (HTr.2 i hlt).1
      have hy1 := (HTr.2 i hlt).2
      simp only [Nat.zero_add] at hx1 hy1
      have k0 : (0 : Int) ≤ (i : Int) := by omega
      have k1 : (i : Int) < (N : Int) := by omega
      have HP : Hid (pre (kX LL) i' = pre (kX LL) i ++ [kX LL i]) := by rw [hi']; exact pre_succ _ _
      have HIS := Lib.hid hi'
      obtain ⟨xx, hxx⟩ : ∃ z, z = kX LL i := ⟨_, rfl⟩
      obtain ⟨yy, hyy⟩ : ∃ z, z = kY LL i := ⟨_, rfl⟩
      rw [← hxx] at hx1 HP
      rw [← hyy] at hy1
      clear hi' HTr hlt hxx hyy
      go_upto_region 7 with fail
      have hbk : Below wr.heap.size wr (wr.alloc (Obj.cells #[.int .i64 xx, .int .i64 yy] 49)) := by (repeat' (first | assumption | exact Below.refl _ _ | exact Below.size (by assumption) | (refine Below.setCell ?_ ?_ _) | (refine Below.alloc ?_ ?_ _) | (refine Below.drew ?_) | (refine below_drewN ?_ _) | (refine Below.trans ?_ (Below.mono ‹Below _ _ _› ?_)) | omega | (simp; done) | (simp; omega) | (simp at *; omega)))
      have HM2 := Lib.hid ((own_below HM.out.1 hbk).alloc (.cells #[.int .i64 xx] 3))
      have HBK := Lib.hid (below_step HM.out.2 hbk)
      have c0 : (wr.alloc (Obj.cells #[.int .i64 xx, .int .i64 yy] 49)).cell? ⟨wr.heap.size, 0, none⟩ = some (.int .i64 xx) := by simp
      generalize wr.alloc (Obj.cells #[.int .i64 xx, .int .i64 yy] 49) = wk at HM2 HBK c0 ⊢
      have HBS : Hid (w3.heap.size ≤ wk.heap.size) := HBK.out.size
      clear hbk hx1 hy1
      go_wp2_with (first
        | (at_builtin; refine wpList_append_own_at _ ?g1 (.tmp 36) (.tmp 39) 74 ?g2 (w3.heap.size) 3 HI0 (.int .i64 0) 1 8 Tryz.underlying74 HI1.out HI2.out HI3.out HI4.out ?g3 ?g4 (u6) (i) (ic (pre (kX LL) i)) ?g5 (HM2.out) (⟨wk.heap.size, 0, none⟩) (1) (1) ([.int .i64 xx]) ?g7 (rfl) (World.news_of_block (cs := #[.int .i64 xx]) (t := 3) (fr := (0, 0)) (heap_alloc_new _ _)) ((by simp [Value.oneCell'])) (h63_i HI300.out) (hby_i HI300.out) (Nat.le_trans HBS.out (by simp)) ?g14
           case g1 => exact rfl
           case g2 => exact rfl
           case g3 => exact rfl
           case g4 => decide
           case g5 => exact rfl
           case g7 => exact rfl
           intro v2 w4 hown2 hgrow2 hnil2 hat2
           have HB4 : Hid (Below w3.heap.size w3 w4) := below_own HM2.out (HBK.out.alloc HBS.out _) hgrow2
           have HO4 := Lib.hid hown2
           clear hown2 hgrow2 hnil2 hat2))
      go_roundw
      case rel => exact ⟨i', HI', rfl, by rw [HIS.out, ← HIS.out, HP.out, ic_append, HIS.out]; exact HO4.out, HB4.out⟩
      case measure => exact HMS.out
    · have e : i = N := by have := Hi.out; omega
      have T0 : decide ((i : Int) < (N : Int)) = false := by simp <;> omega
      have T0' : decide (i < N) = false := decide_eq_false hlt
      have hN0 : 0 < N := by have := HN.out; have := H2.out; omega
      have hom := HM.out
      rw [e] at hom
      obtain ⟨gx, capx, rfl, hgx, hcx⟩ := hom.1.form hN0
      have HX : Hid (XMem w3 wr gx capx (pre (kX LL) N)) := ⟨by rw [pre_len]; exact hom.1, hom.2⟩
      obtain ⟨zs, hzs⟩ : ∃ z, z = (pre (kX LL) N).mergeSort fun x y => decide (x ≤ y) := ⟨_, rfl⟩
      have hzl : N = zs.length := by rw [hzs, List.length_mergeSort, pre_len]
      have hpc : PL = Lib.compact zs := by rw [HPL.out, hzs, HLL.out, HN.out]; rfl
      have SS := Lib.hid (csortN w3 N (pre (kX LL) N) (pre_len _ _).symm (by have := HN300.out; omega))
      rw [← hzs] at SS
      have SK := Lib.hid (ccompactN w3 N n zs hzl (by rw [HPN.out, hpc]) (by have := HN300.out; omega))
      rw [← hpc] at SK
      clear hom hgx hcx hzs hzl hpc HM hN0 hlt e
      go_upto_region 11 with (first
        | (go_at_call 38
           with_reducible refine (SS.out _ _ _ HX.out).mono ?_
           rintro e w5 ⟨rfl, hx5⟩
           have HX5 := Lib.hid hx5
           clear hx5)
        | (go_at_call 39
           with_reducible refine (SK.out _ _ _ HX5.out).mono ?_
           rintro e w6 ⟨rfl, hx6⟩
           have HX6 := Lib.hid hx6
           clear hx6))
      have HB6 : Hid (Below w.heap.size w w6) := HB3.out.trans (HX6.out.2.mono HB3.out.size)
      by_cases h100 : 100 < n
      · have t4 : decide ((100 : Int) < (n : Int)) = true := decide_eq_true (by omega)
        have t5 : decide (100 < n) = true := decide_eq_true h100
        have H5 := Lib.hid h100
        clear h100
        go_wp2_with fail
        go_ret2
        exact .inl ⟨H5.out, rfl, HB6.out⟩
      · have t4 : decide ((100 : Int) < (n : Int)) = false := decide_eq_false (by omega)
        have t5 : decide (100 < n) = false := decide_eq_false h100
        have H5 : Hid (n ≤ 100) := by show n ≤ 100; omega
        clear h100
        obtain ⟨KI0, ki0, kz0, kz1, kz2⟩ := info_parts1 info39
        have KI1 := Lib.hid ki0
        have KI2 := Lib.hid kz0
        have KI3 := Lib.hid kz1
        have KI4 := Lib.hid kz2
        clear ki0 kz0 kz1 kz2
        obtain ⟨P, hP⟩ : ∃ P, P = fun k => PL.getD k 0 := ⟨_, rfl⟩
        obtain ⟨Q, hQ⟩ : ∃ Q, Q = fun k => addY XA YA ma XB YB mb (PL.getD k 0) := ⟨_, rfl⟩
        have HPF := Lib.hid hP
        have HQF := Lib.hid hQ
        clear hP hQ
        go_wp2_with (first
          | (at_make; refine wpList_make_own _ rfl _ _ 23 rfl w6.heap.size 49 KI0 (.agg #[.int .i64 0, .int .i64 0]) 2 Tryz.underlying23 KI1.out KI2.out KI3.out .i64 .i64 _ n rfl rfl rfl (by rw [KI4.out]; have := H5.out; omega) (by have := H5.out; unfold maxLen; omega) (Nat.le_refl _) ?_
             intro wm hownm hgrowm
             have HM0 : Hid (wm.ownsRow w6.heap.size 49 2 (.slice (some ⟨w6.heap.size, 0, none⟩) 0 n) 0 [] ∧ Below w6.heap.size w6 wm) := ⟨hownm, hgrowm.os, hgrowm.tape, hgrowm.output, hgrowm.size, fun k hk => hgrowm.block k hk (by simp)⟩
             clear hownm hgrowm))
        go_loopw [9, 54] (fun u v wr => ∃ j g cap : Nat, Hid (j ≤ n) ∧ u = .slice (some ⟨g, 0, none⟩) j cap ∧ v = .int .i64 j ∧ Hid (wr.ownsRow w6.heap.size 49 2 (.slice (some ⟨g, 0, none⟩) j cap) j (kc (tl j P Q)) ∧ Below w6.heap.size w6 wr) ∧ Hid (∀ k, k < j → inB (Q k))) (fun _ v _ => n - (intOf v).toNat)
        case atStart => exact ⟨0, _, n, Nat.zero_le _, rfl, rfl, HM0, fun k hk => absurd hk (Nat.not_lt_zero _)⟩
        case round =>
          obtain ⟨j, g, cap, Hj, rfl, rfl, HM, HF⟩ := hrel
          have HBR : Hid (Below w.heap.size w wr) := HB6.out.trans (HM.out.2.mono HB6.out.size)
          by_cases hlt : j < n
          · have T1 : decide ((j : Int) < (n : Int)) = true := by simp <;> omega
            have T1' : decide (j < n) = true := decide_eq_true hlt
            have HJN := Lib.hid hlt
            obtain ⟨j', hj'⟩ : ∃ z, z = j + 1 := ⟨_, rfl⟩
            have x0 : IntKind.i64.wrap ((j : Int) + 1) = (j' : Int) := by have := H5.out; rw [IntKind.wrap_i64]; omega
            have HJ' : Hid (j' ≤ n) := by show j' ≤ n; omega
            have HJ300 : Hid (j ≤ 300) := by show j ≤ 300; have := H5.out; omega
            have HJS := Lib.hid hj'
            have HMS : Hid (n - (intOf (Value.int .i64 (j' : Int))).toNat < n - (intOf (Value.int .i64 (j : Int))).toNat) := by show _ < _; simp [intOf]; omega
            have k0 : (0 : Int) ≤ (j : Int) := by omega
            have k1 : (j : Int) < (n : Int) := by omega
            obtain ⟨x, hx⟩ : ∃ x, x = P j := ⟨_, rfl⟩
            have HXJ : Hid (P j = x) := hx.symm
            have hcx : wr.cell? ⟨gx, j, none⟩ = some (.int .i64 x) := by
              rw [hx, HPF.out]
              exact (HM.out.2.cell (p := ⟨gx, j, none⟩) (xmem_lt HX6.out)).trans (xmem_cell HX6.out (by rw [← HPN.out]; exact hlt))
            have hvA := HVA.out
            have hvB := HVB.out
            rw [EA.out] at hvA
            rw [EB.out] at hvB
            obtain ⟨dA, okA, cA⟩ := tpiece_den ba oa ma ca XA YA x hvA
            obtain ⟨dB, okB, cB⟩ := tpiece_den bb ob mb cb XB YB x hvB
            rw [← EA.out] at cA
            rw [← EB.out] at cB
            have vb1 := val_in x hvA
            have vb2 := val_in x hvB
            obtain ⟨rA, hrA⟩ : ∃ r : Nat, Val.rst XA YA ma x = (r : Int) := ⟨(Val.rst XA YA ma x).toNat, by have := okA.2.2.1; omega⟩
            obtain ⟨rB, hrB⟩ : ∃ r : Nat, Val.rst XB YB mb x = (r : Int) := ⟨(Val.rst XB YB mb x).toNat, by have := okB.2.2.1; omega⟩
            have hQj : Q j = Val.val XA YA ma x + Val.val XB YB mb x + (if car rA dA rB dB then 1 else 0) := by
              rw [HQF.out]
              show addY XA YA ma XB YB mb (PL.getD j 0) = _
              have ex : PL.getD j 0 = x := by rw [hx, HPF.out]
              rw [ex]
              unfold addY
              rw [hrA, hrB, Int.toNat_natCast, Int.toNat_natCast, car_den (fun h => okA.2.2.2.2 (by rw [hrA]; omega)) (fun h => okB.2.2.2.2 (by rw [hrB]; omega))]
            have CR := Lib.hid fun w => treach rA dA rB dB (by have := okA.2.2.2.1; omega) okA.2.1 (by have := okB.2.2.2.1; omega) okB.2.1 w
            rw [hrA] at cA
            rw [hrB] at cB
            obtain ⟨vA, hvAA⟩ : ∃ v, v = Val.val XA YA ma x := ⟨_, rfl⟩
            obtain ⟨vB, hvBB⟩ : ∃ v, v = Val.val XB YB mb x := ⟨_, rfl⟩
            rw [← hvAA] at cA vb1 hQj
            rw [← hvBB] at cB vb2 hQj
            obtain ⟨f, hf⟩ : ∃ f, f = car rA dA rB dB := ⟨_, rfl⟩
            rw [← hf] at CR hQj
            have CA := Lib.hid cA
            have CB := Lib.hid cB
            obtain ⟨y0, hy0⟩ : ∃ z, z = vA + vB := ⟨_, rfl⟩
            have HYB : Hid (-2251799813685248 ≤ y0 ∧ y0 ≤ 2251799813685248) := by show _ ∧ _; unfold inB at vb1 vb2; omega
            have e1 : IntKind.i64.wrap (vA + vB) = y0 := by rw [← hy0, IntKind.wrap_i64]; have := HYB.out; omega
            rw [← hy0] at hQj
            clear hx hvA hvB okA okB cA cB vb1 vb2 hrA hrB hvAA hvBB hf hy0 hlt hj'
            cases f with
            | true =>
              have HQJ : Hid (Q j = y0 + 1) := hQj
              clear hQj
              obtain ⟨y, hy⟩ : ∃ z, z = y0 + 1 := ⟨_, rfl⟩
              have e2 : IntKind.i64.wrap (y0 + 1) = y := by rw [hy, IntKind.wrap_i64]; have := HYB.out; omega
              have HQ : Hid (Q j = y) := by show Q j = y; rw [hy]; exact HQJ.out
              have CF := Lib.hid fun w => tfits y w
              clear hy
              by_cases hin : inB y
              · have tf := betw_true hin
                have HIN := Lib.hid hin
                clear hin
                go_wp2_with (first
                    | (go_at_call 28; (with_reducible refine (CA.out _ ?_).mono ?_); (focus (exact HA.out.below (by have := HBR.out; (repeat' (first | assumption | exact Below.refl _ _ | exact Below.size (by assumption) | (refine Below.setCell ?_ ?_ _) | (refine Below.alloc ?_ ?_ _) | (refine Below.drew ?_) | (refine below_drewN ?_ _) | (refine Below.trans ?_ (Below.mono ‹Below _ _ _› ?_)) | omega | (simp; done) | (simp; omega) | (simp at *; omega)))) hba)); rintro e w7 ⟨rfl, hb7⟩; obtain ⟨hc7, hf7⟩ := bcell hb7; have hz7 := hb7.size; (try simp at hz7); (try simp only [heap_drew, World.heap_drewN] at hz7); (try simp only [heap_drew, World.heap_drewN] at hc7); (try simp only [heap_drew, World.heap_drewN] at hf7); (try have hs1 := Nat.lt_of_succ_le hz7); (try have hs2 := Nat.lt_of_succ_lt hs1); (try have y0 : w.heap.size < w7.heap.size := by omega); (try have y1 : w.heap.size + 1 < w7.heap.size := by omega); (try have y2 : w.heap.size + 2 < w7.heap.size := by omega))
                    | (go_at_call 28; (with_reducible refine (CB.out _ ?_).mono ?_); (focus (exact HB.out.below (by have := HBR.out; (repeat' (first | assumption | exact Below.refl _ _ | exact Below.size (by assumption) | (refine Below.setCell ?_ ?_ _) | (refine Below.alloc ?_ ?_ _) | (refine Below.drew ?_) | (refine below_drewN ?_ _) | (refine Below.trans ?_ (Below.mono ‹Below _ _ _› ?_)) | omega | (simp; done) | (simp; omega) | (simp at *; omega)))) hbb)); rintro e w8 ⟨rfl, hb8⟩; obtain ⟨hc8, hf8⟩ := bcell hb8; have hz8 := hb8.size; (try simp at hz8); (try simp only [heap_drew, World.heap_drewN] at hz8); (try simp only [heap_drew, World.heap_drewN] at hc8); (try simp only [heap_drew, World.heap_drewN] at hf8); (try have hs1 := Nat.lt_of_succ_le hz8); (try have hs2 := Nat.lt_of_succ_lt hs1); (try have y0 : w.heap.size < w8.heap.size := by omega); (try have y1 : w.heap.size + 1 < w8.heap.size := by omega); (try have y2 : w.heap.size + 2 < w8.heap.size := by omega))
                    | ((go_at_call 40; (with_reducible refine (CR.out _).mono ?_); rintro e w9 ⟨rfl, hb9⟩; obtain ⟨hc9, hf9⟩ := bcell hb9; have hz9 := hb9.size; (try simp at hz9); (try simp only [heap_drew, World.heap_drewN] at hz9); (try simp only [heap_drew, World.heap_drewN] at hc9); (try simp only [heap_drew, World.heap_drewN] at hf9); (try have hs1 := Nat.lt_of_succ_le hz9); (try have hs2 := Nat.lt_of_succ_lt hs1); (try have y0 : w.heap.size < w9.heap.size := by omega); (try have y1 : w.heap.size + 1 < w9.heap.size := by omega); (try have y2 : w.heap.size + 2 < w9.heap.size := by omega)); have HM9 := Lib.hid (out_call HM.out (by (repeat' (first | assumption | exact Below.refl _ _ | exact Below.size (by assumption) | (refine Below.setCell ?_ ?_ _) | (refine Below.alloc ?_ ?_ _) | (refine Below.drew ?_) | (refine below_drewN ?_ _) | (refine Below.trans ?_ (Below.mono ‹Below _ _ _› ?_)) | omega | (simp; done) | (simp; omega) | (simp at *; omega))) : Below wr.heap.size wr w9)); clear hc7 hf7 hc8 hf8 hc9 hf9)
                    | (go_at_call 41; (with_reducible refine (CF.out _).mono ?_); rintro e w' ⟨rfl, rfl⟩)
                    | (at_builtin; refine wpList_append_own_at _ ?m1 (.tmp 85) (.tmp 89) 23 ?m2 (w6.heap.size) 49 KI0 (.agg #[.int .i64 0, .int .i64 0]) 2 16 Tryz.underlying23 KI1.out KI2.out KI3.out KI4.out ?m3 ?m4 (.slice (some ⟨g, 0, none⟩) j cap) (j) (kc (tl j P Q)) ?m5 (HM9.out.1.alloc _) (⟨w9.heap.size, 0, none⟩) (1) (1) ([.int .i64 x, .int .i64 y]) ?m7 (rfl) (World.news_of_block (cs := #[.int .i64 x, .int .i64 y]) (t := 49) (fr := (0, 0)) (heap_alloc_new _ _)) ((by simp [Value.oneCell'])) (h63_le HJ300.out) (hby_le HJ300.out) (base_alloc1 HM9.out.2.size _) ?m14
                       case m1 => exact rfl
                       case m2 => exact rfl
                       case m3 => exact rfl
                       case m4 => decide
                       case m5 => exact rfl
                       case m7 => exact rfl
                       intro v2 wA hown2 hgrow2 hnil2 hat2
                       obtain ⟨g2, cap2, rfl, hbb2, hll2⟩ := hown2.form (Nat.succ_pos _)
                       have HBA : Hid (Below w6.heap.size w6 wA) := below_own (HM9.out.1.alloc _) (HM9.out.2.alloc HM9.out.2.size _) hgrow2
                       have HOA := Lib.hid hown2
                       clear hown2 hgrow2 hnil2 hat2))
                go_roundw
                case rel =>
                  refine ⟨j', g2, cap2, HJ', by rw [HJS.out], rfl, ⟨?_, HBA.out⟩, ?_⟩
                  · rw [HJS.out, tl_succ, kc_append, kc_one, HQ.out, HXJ.out]; exact HOA.out
                  · show ∀ k, k < j' → inB (Q k)
                    intro k hk
                    rcases Nat.lt_or_ge k j with h | h
                    · exact HF.out k h
                    · have : k = j := by have := HJS.out; omega
                      rw [this, HQ.out]; exact HIN.out
                case measure => exact HMS.out
              · have tf := betw_false hin
                have HIN := Lib.hid hin
                clear hin
                go_wp2_with (first | (go_at_call 28; (with_reducible refine (CA.out _ ?_).mono ?_); (focus (exact HA.out.below (by have := HBR.out; (repeat' (first | assumption | exact Below.refl _ _ | exact Below.size (by assumption) | (refine Below.setCell ?_ ?_ _) | (refine Below.alloc ?_ ?_ _) | (refine Below.drew ?_) | (refine below_drewN ?_ _) | (refine Below.trans ?_ (Below.mono ‹Below _ _ _› ?_)) | omega | (simp; done) | (simp; omega) | (simp at *; omega)))) hba)); rintro e w7 ⟨rfl, hb7⟩; obtain ⟨hc7, hf7⟩ := bcell hb7; have hz7 := hb7.size; (try simp at hz7); (try simp only [heap_drew, World.heap_drewN] at hz7); (try simp only [heap_drew, World.heap_drewN] at hc7); (try simp only [heap_drew, World.heap_drewN] at hf7); (try have hs1 := Nat.lt_of_succ_le hz7); (try have hs2 := Nat.lt_of_succ_lt hs1); (try have y0 : w.heap.size < w7.heap.size := by omega); (try have y1 : w.heap.size + 1 < w7.heap.size := by omega); (try have y2 : w.heap.size + 2 < w7.heap.size := by omega)) | (go_at_call 28; (with_reducible refine (CB.out _ ?_).mono ?_); (focus (exact HB.out.below (by have := HBR.out; (repeat' (first | assumption | exact Below.refl _ _ | exact Below.size (by assumption) | (refine Below.setCell ?_ ?_ _) | (refine Below.alloc ?_ ?_ _) | (refine Below.drew ?_) | (refine below_drewN ?_ _) | (refine Below.trans ?_ (Below.mono ‹Below _ _ _› ?_)) | omega | (simp; done) | (simp; omega) | (simp at *; omega)))) hbb)); rintro e w8 ⟨rfl, hb8⟩; obtain ⟨hc8, hf8⟩ := bcell hb8; have hz8 := hb8.size; (try simp at hz8); (try simp only [heap_drew, World.heap_drewN] at hz8); (try simp only [heap_drew, World.heap_drewN] at hc8); (try simp only [heap_drew, World.heap_drewN] at hf8); (try have hs1 := Nat.lt_of_succ_le hz8); (try have hs2 := Nat.lt_of_succ_lt hs1); (try have y0 : w.heap.size < w8.heap.size := by omega); (try have y1 : w.heap.size + 1 < w8.heap.size := by omega); (try have y2 : w.heap.size + 2 < w8.heap.size := by omega)) | ((go_at_call 40; (with_reducible refine (CR.out _).mono ?_); rintro e w9 ⟨rfl, hb9⟩; obtain ⟨hc9, hf9⟩ := bcell hb9; have hz9 := hb9.size; (try simp at hz9); (try simp only [heap_drew, World.heap_drewN] at hz9); (try simp only [heap_drew, World.heap_drewN] at hc9); (try simp only [heap_drew, World.heap_drewN] at hf9); (try have hs1 := Nat.lt_of_succ_le hz9); (try have hs2 := Nat.lt_of_succ_lt hs1); (try have y0 : w.heap.size < w9.heap.size := by omega); (try have y1 : w.heap.size + 1 < w9.heap.size := by omega); (try have y2 : w.heap.size + 2 < w9.heap.size := by omega)); have HM9 := Lib.hid (out_call HM.out (by (repeat' (first | assumption | exact Below.refl _ _ | exact Below.size (by assumption) | (refine Below.setCell ?_ ?_ _) | (refine Below.alloc ?_ ?_ _) | (refine Below.drew ?_) | (refine below_drewN ?_ _) | (refine Below.trans ?_ (Below.mono ‹Below _ _ _› ?_)) | omega | (simp; done) | (simp; omega) | (simp at *; omega))) : Below wr.heap.size wr w9)); clear hc7 hf7 hc8 hf8 hc9 hf9) | (go_at_call 41; (with_reducible refine (CF.out _).mono ?_); rintro e w' ⟨rfl, rfl⟩))
                go_ret2
                exact .inr (.inl ⟨H5.out, ⟨j, HJN.out, by show ¬ inB _; have hh := HIN.out; rw [← HQ.out, HQF.out] at hh; exact hh⟩, rfl, HB6.out.trans (HM9.out.2.mono HB6.out.size)⟩)
            | false =>
              have HQJ : Hid (Q j = y0) := by show Q j = y0; rw [hQj]; simp
              clear hQj
              obtain ⟨y, hy⟩ : ∃ z, z = y0 := ⟨_, rfl⟩
              rw [← hy] at e1
              have HQ : Hid (Q j = y) := by show Q j = y; rw [hy]; exact HQJ.out
              have CF := Lib.hid fun w => tfits y w
              clear hy
              by_cases hin : inB y
              · have tf := betw_true hin
                have HIN := Lib.hid hin
                clear hin
                go_wp2_with (first
                    | (go_at_call 28; (with_reducible refine (CA.out _ ?_).mono ?_); (focus (exact HA.out.below (by have := HBR.out; (repeat' (first | assumption | exact Below.refl _ _ | exact Below.size (by assumption) | (refine Below.setCell ?_ ?_ _) | (refine Below.alloc ?_ ?_ _) | (refine Below.drew ?_) | (refine below_drewN ?_ _) | (refine Below.trans ?_ (Below.mono ‹Below _ _ _› ?_)) | omega | (simp; done) | (simp; omega) | (simp at *; omega)))) hba)); rintro e w7 ⟨rfl, hb7⟩; obtain ⟨hc7, hf7⟩ := bcell hb7; have hz7 := hb7.size; (try simp at hz7); (try simp only [heap_drew, World.heap_drewN] at hz7); (try simp only [heap_drew, World.heap_drewN] at hc7); (try simp only [heap_drew, World.heap_drewN] at hf7); (try have hs1 := Nat.lt_of_succ_le hz7); (try have hs2 := Nat.lt_of_succ_lt hs1); (try have y0 : w.heap.size < w7.heap.size := by omega); (try have y1 : w.heap.size + 1 < w7.heap.size := by omega); (try have y2 : w.heap.size + 2 < w7.heap.size := by omega))
                    | (go_at_call 28; (with_reducible refine (CB.out _ ?_).mono ?_); (focus (exact HB.out.below (by have := HBR.out; (repeat' (first | assumption | exact Below.refl _ _ | exact Below.size (by assumption) | (refine Below.setCell ?_ ?_ _) | (refine Below.alloc ?_ ?_ _) | (refine Below.drew ?_) | (refine below_drewN ?_ _) | (refine Below.trans ?_ (Below.mono ‹Below _ _ _› ?_)) | omega | (simp; done) | (simp; omega) | (simp at *; omega)))) hbb)); rintro e w8 ⟨rfl, hb8⟩; obtain ⟨hc8, hf8⟩ := bcell hb8; have hz8 := hb8.size; (try simp at hz8); (try simp only [heap_drew, World.heap_drewN] at hz8); (try simp only [heap_drew, World.heap_drewN] at hc8); (try simp only [heap_drew, World.heap_drewN] at hf8); (try have hs1 := Nat.lt_of_succ_le hz8); (try have hs2 := Nat.lt_of_succ_lt hs1); (try have y0 : w.heap.size < w8.heap.size := by omega); (try have y1 : w.heap.size + 1 < w8.heap.size := by omega); (try have y2 : w.heap.size + 2 < w8.heap.size := by omega))
                    | ((go_at_call 40; (with_reducible refine (CR.out _).mono ?_); rintro e w9 ⟨rfl, hb9⟩; obtain ⟨hc9, hf9⟩ := bcell hb9; have hz9 := hb9.size; (try simp at hz9); (try simp only [heap_drew, World.heap_drewN] at hz9); (try simp only [heap_drew, World.heap_drewN] at hc9); (try simp only [heap_drew, World.heap_drewN] at hf9); (try have hs1 := Nat.lt_of_succ_le hz9); (try have hs2 := Nat.lt_of_succ_lt hs1); (try have y0 : w.heap.size < w9.heap.size := by omega); (try have y1 : w.heap.size + 1 < w9.heap.size := by omega); (try have y2 : w.heap.size + 2 < w9.heap.size := by omega)); have HM9 := Lib.hid (out_call HM.out (by (repeat' (first | assumption | exact Below.refl _ _ | exact Below.size (by assumption) | (refine Below.setCell ?_ ?_ _) | (refine Below.alloc ?_ ?_ _) | (refine Below.drew ?_) | (refine below_drewN ?_ _) | (refine Below.trans ?_ (Below.mono ‹Below _ _ _› ?_)) | omega | (simp; done) | (simp; omega) | (simp at *; omega))) : Below wr.heap.size wr w9)); clear hc7 hf7 hc8 hf8 hc9 hf9)
                    | (go_at_call 41; (with_reducible refine (CF.out _).mono ?_); rintro e w' ⟨rfl, rfl⟩)
                    | (at_builtin; refine wpList_append_own_at _ ?k1 (.tmp 85) (.tmp 89) 23 ?k2 (w6.heap.size) 49 KI0 (.agg #[.int .i64 0, .int .i64 0]) 2 16 Tryz.underlying23 KI1.out KI2.out KI3.out KI4.out ?k3 ?k4 (.slice (some ⟨g, 0, none⟩) j cap) (j) (kc (tl j P Q)) ?k5 (HM9.out.1.alloc _) (⟨w9.heap.size, 0, none⟩) (1) (1) ([.int .i64 x, .int .i64 y]) ?k7 (rfl) (World.news_of_block (cs := #[.int .i64 x, .int .i64 y]) (t := 49) (fr := (0, 0)) (heap_alloc_new _ _)) ((by simp [Value.oneCell'])) (h63_le HJ300.out) (hby_le HJ300.out) (base_alloc1 HM9.out.2.size _) ?k14
                       case k1 => exact rfl
                       case k2 => exact rfl
                       case k3 => exact rfl
                       case k4 => decide
                       case k5 => exact rfl
                       case k7 => exact rfl
                       intro v2 wA hown2 hgrow2 hnil2 hat2
                       obtain ⟨g2, cap2, rfl, hbb2, hll2⟩ := hown2.form (Nat.succ_pos _)
                       have HBA : Hid (Below w6.heap.size w6 wA) := below_own (HM9.out.1.alloc _) (HM9.out.2.alloc HM9.out.2.size _) hgrow2
                       have HOA := Lib.hid hown2
                       clear hown2 hgrow2 hnil2 hat2))
                go_roundw
                case rel =>
                  refine ⟨j', g2, cap2, HJ', by rw [HJS.out], rfl, ⟨?_, HBA.out⟩, ?_⟩
                  · rw [HJS.out, tl_succ, kc_append, kc_one, HQ.out, HXJ.out]; exact HOA.out
                  · show ∀ k, k < j' → inB (Q k)
                    intro k hk
                    rcases Nat.lt_or_ge k j with h | h
                    · exact HF.out k h
                    · have : k = j := by have := HJS.out; omega
                      rw [this, HQ.out]; exact HIN.out
                case measure => exact HMS.out
              · have tf := betw_false hin
                have HIN := Lib.hid hin
                clear hin
                go_wp2_with (first | (go_at_call 28; (with_reducible refine (CA.out _ ?_).mono ?_); (focus (exact HA.out.below (by have := HBR.out; (repeat' (first | assumption | exact Below.refl _ _ | exact Below.size (by assumption) | (refine Below.setCell ?_ ?_ _) | (refine Below.alloc ?_ ?_ _) | (refine Below.drew ?_) | (refine below_drewN ?_ _) | (refine Below.trans ?_ (Below.mono ‹Below _ _ _› ?_)) | omega | (simp; done) | (simp; omega) | (simp at *; omega)))) hba)); rintro e w7 ⟨rfl, hb7⟩; obtain ⟨hc7, hf7⟩ := bcell hb7; have hz7 := hb7.size; (try simp at hz7); (try simp only [heap_drew, World.heap_drewN] at hz7); (try simp only [heap_drew, World.heap_drewN] at hc7); (try simp only [heap_drew, World.heap_drewN] at hf7); (try have hs1 := Nat.lt_of_succ_le hz7); (try have hs2 := Nat.lt_of_succ_lt hs1); (try have y0 : w.heap.size < w7.heap.size := by omega); (try have y1 : w.heap.size + 1 < w7.heap.size := by omega); (try have y2 : w.heap.size + 2 < w7.heap.size := by omega)) | (go_at_call 28; (with_reducible refine (CB.out _ ?_).mono ?_); (focus (exact HB.out.below (by have := HBR.out; (repeat' (first | assumption | exact Below.refl _ _ | exact Below.size (by assumption) | (refine Below.setCell ?_ ?_ _) | (refine Below.alloc ?_ ?_ _) | (refine Below.drew ?_) | (refine below_drewN ?_ _) | (refine Below.trans ?_ (Below.mono ‹Below _ _ _› ?_)) | omega | (simp; done) | (simp; omega) | (simp at *; omega)))) hbb)); rintro e w8 ⟨rfl, hb8⟩; obtain ⟨hc8, hf8⟩ := bcell hb8; have hz8 := hb8.size; (try simp at hz8); (try simp only [heap_drew, World.heap_drewN] at hz8); (try simp only [heap_drew, World.heap_drewN] at hc8); (try simp only [heap_drew, World.heap_drewN] at hf8); (try have hs1 := Nat.lt_of_succ_le hz8); (try have hs2 := Nat.lt_of_succ_lt hs1); (try have y0 : w.heap.size < w8.heap.size := by omega); (try have y1 : w.heap.size + 1 < w8.heap.size := by omega); (try have y2 : w.heap.size + 2 < w8.heap.size := by omega)) | ((go_at_call 40; (with_reducible refine (CR.out _).mono ?_); rintro e w9 ⟨rfl, hb9⟩; obtain ⟨hc9, hf9⟩ := bcell hb9; have hz9 := hb9.size; (try simp at hz9); (try simp only [heap_drew, World.heap_drewN] at hz9); (try simp only [heap_drew, World.heap_drewN] at hc9); (try simp only [heap_drew, World.heap_drewN] at hf9); (try have hs1 := Nat.lt_of_succ_le hz9); (try have hs2 := Nat.lt_of_succ_lt hs1); (try have y0 : w.heap.size < w9.heap.size := by omega); (try have y1 : w.heap.size + 1 < w9.heap.size := by omega); (try have y2 : w.heap.size + 2 < w9.heap.size := by omega)); have HM9 := Lib.hid (out_call HM.out (by (repeat' (first | assumption | exact Below.refl _ _ | exact Below.size (by assumption) | (refine Below.setCell ?_ ?_ _) | (refine Below.alloc ?_ ?_ _) | (refine Below.drew ?_) | (refine below_drewN ?_ _) | (refine Below.trans ?_ (Below.mono ‹Below _ _ _› ?_)) | omega | (simp; done) | (simp; omega) | (simp at *; omega))) : Below wr.heap.size wr w9)); clear hc7 hf7 hc8 hf8 hc9 hf9) | (go_at_call 41; (with_reducible refine (CF.out _).mono ?_); rintro e w' ⟨rfl, rfl⟩))
                go_ret2
                exact .inr (.inl ⟨H5.out, ⟨j, HJN.out, by show ¬ inB _; have hh := HIN.out; rw [← HQ.out, HQF.out] at hh; exact hh⟩, rfl, HB6.out.trans (HM9.out.2.mono HB6.out.size)⟩)
          · have e : j = n := by have := Hj.out; omega
            have T1 : decide ((j : Int) < (n : Int)) = false := by simp <;> omega
            have T1' : decide (j < n) = false := decide_eq_false hlt
            have HE := Lib.hid e
            clear e hlt
            go_wp2_with fail
            go_ret2
            refine .inr (.inr ⟨H5.out, ?_, g, cap, by first | rfl | (rw [HE.out]; rfl) | (rw [← HE.out]; rfl), ?_, ?_, HBR.out⟩)
            · intro k hk
              have := HF.out k (by rw [HE.out]; exact hk)
              rw [HQF.out] at this
              exact this
            · have := (HM.out.1.lt g rfl).1
              have := HB6.out.size
              omega
            · have h := out_tab HM.out.1
              rw [HE.out, HPF.out, HQF.out] at h
              exact h
end Go.Proofs.YtapfmbnppeonkaaGreatDoor

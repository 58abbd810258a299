/- The text of a table: the package's Text. -/
import Derived.Test.YthbdeaglncoanaaGreatDoorShelfJoin
import Derived.Test.YthbdeaglncoanaaGreatDoorPrsP
import Derived.Test.YthbdeaglncoanaaGreatDoorEnv
import Derived.Test.YthbdeaglncoanaaGreatDoorRwT
import Derived.Test.YthbdeaglncoanaaGreatDoorJoinP
import Derived.Test.YthbdeaglncoanaaGreatDoorTabTwo
namespace Go.Proofs.YthbdeaglncoanaaGreatDoor
open Go.RowKit
set_option linter.unusedVariables false
set_option linter.unusedSimpArgs false

/-- The texts of the first knots. -/
def kst (X Y : Nat → Int) (n : Nat) : List ByteArray := (List.range n).map fun k => ⟨(ktx (X k) (Y k)).toArray⟩
theorem kst_succ (X Y : Nat → Int) (n : Nat) : kst X Y (n + 1) = kst X Y n ++ [⟨(ktx (X n) (Y n)).toArray⟩] := by unfold kst; rw [List.range_succ, List.map_append]; rfl
theorem kst_len (X Y : Nat → Int) (n : Nat) : (kst X Y n).length = n := by simp [kst]
theorem kst_at (X Y : Nat → Int) {n k : Nat} (h : k < n) : (kst X Y n).getD k ByteArray.empty = ⟨(ktx (X k) (Y k)).toArray⟩ := by simp [kst, List.getD, h]
theorem jn_kst (X Y : Nat → Int) : ∀ n, jn (kst X Y n) = txL X Y n
  | 0 => rfl
  | n + 1 => by
    rw [kst_succ]
    show _ = (if 0 < n then txL X Y n ++ [32] else txL X Y n) ++ ktx (X n) (Y n)
    by_cases h : n = 0
    · subst h
      rw [if_neg (by omega)]
      show jn ([] ++ [_]) = _
      rw [List.nil_append, jn_one]
      rfl
    · rw [jn_snoc (by intro e; have := kst_len X Y n; rw [e] at this; simp at this; omega), jn_kst X Y n, if_pos (by omega)]
      simp
theorem wl_kst (X Y : Nat → Int) (n : Nat) : wl (fun k => (kst X Y n).getD k ByteArray.empty) n = kst X Y n := by
  unfold wl
  conv => rhs; unfold kst
  apply List.map_congr_left
  intro k hk
  exact kst_at X Y (List.mem_range.1 hk)
theorem inB_near {v : Int} (h : inB v) : near v := by unfold inB at h; unfold near; omega
theorem TabOK.near {n : Nat} {X Y : Nat → Int} (h : TabOK n X Y) (k : Nat) (hk : k < n) : near (X k) ∧ near (Y k) := ⟨inB_near (h.2.2 k hk).1, inB_near (h.2.2 k hk).2.1⟩
theorem itoa_size {v : Int} (h : near v) : (⟨(Lib.itoa v).toArray⟩ : ByteArray).size ≤ 19 := itoa_len h
theorem tjoin (A : Option Addr) (n c : Nat) (X : Nat → ByteArray) (hnc : n ≤ c) (h40 : n ≤ 101) (h6 : ∀ i, i < n → (X i).size ≤ 600) (w : World) (ht : StrIn w A n X) :
    Calls Tryz.prog 45 #[.slice A n c, .string ⟨#[32]⟩] w fun e w' => e = .returned (.string ⟨(jn (wl X n)).toArray⟩) ∧ Below w.heap.size w w' := by
  rcases ht.2 with h0 | ⟨b, o, rfl, h⟩
  · subst h0
    refine (Tryz.strings_Join_none A c ⟨#[32]⟩ w).mono ?_
    rintro e w' ⟨he, rfl⟩
    exact ⟨he, Below.refl _ _⟩
  · have hlen := jn_len X 600 n h6
    have hl : (wl X n).length = n := by simp [wl]
    have hm := Nat.mul_le_mul_right 601 h40
    have := Tryz.strings_Join b o c (wl X n) ⟨#[32]⟩ w (fun j x hj => by
      have hjn : j < n := by
        have := (List.getElem?_eq_some_iff.1 hj).1
        omega
      have hx : x = X j := by
        unfold wl at hj
        simp [hjn] at hj
        exact hj.symm
      rw [hx]; exact h.2 j hjn) h.1 (by omega) (by omega) (by
      show (jn (wl X n)).length ≤ _
      omega)
    rw [hl] at this
    exact this
theorem RMem.strs {w wr : World} {u : Value} {N : Nat} {R : List ByteArray} (h : RMem w wr u N R) (hN : N = R.length) (hb : N ≤ 300) : ∃ A cap, u = .slice A N cap ∧ N ≤ cap ∧ StrIn wr A N (fun k => R.getD k ByteArray.empty) := by
  rcases h.1.2 with ⟨hv, h0⟩ | ⟨g, cap, cur, hv, _, _, hnc, _⟩
  · exact ⟨none, 0, by rw [hv, h0], by omega, ⟨by omega, .inl h0⟩⟩
  · have hown := h.1
    rw [hv, hN] at hown
    exact ⟨some ⟨g, 0, none⟩, cap, hv, hnc, ⟨by omega, .inr ⟨g, 0, rfl, by rw [hN]; exact str_of_own hown⟩⟩⟩
theorem blk_app {w wx w' : World} {u : Value} {N g : Nat} {R : List ByteArray} {t : TypeId} {cs cs' : Array Value} (h : Blk wx g t cs) (hm : RMem w wx u N R) (hne : 9 ≠ t) (hg : (wx.alloc (.cells cs' 9)).grownBy w' u.ownBlock) : Blk w' g t cs := by
  refine (h.alloc _).grown hg fun e => ?_
  rcases hm.1.2 with ⟨hv, _⟩ | ⟨g', cap, cur, hv, _, hgb, _⟩
  · rw [hv] at e; simp [Value.ownBlock] at e
  · rw [hv] at e
    have e2 : g = g' := by simpa [Value.ownBlock] using e
    subst e2
    have h1 := (show wx.heap[g]? = _ from h).symm.trans hgb
    simp at h1
    exact hne h1.2.symm
theorem h63_t {n : Nat} (h : n ≤ 300) : n + 1 ≤ maxLen := by simp only [maxLen]; omega
theorem hby_t {n : Nat} (h : n ≤ 300) : (n + 1) * 16 ≤ 140737488355328 := by omega
theorem ttext_bad (A : Option Addr) (n c : Nat) (X Y : Nat → Int) (w : World) (h : TabIn w A n X Y) (hb : ¬ TabOK n X Y) :
    Calls Tryz.prog 23 #[.slice A n c] w fun e w' => e = .returned (.tuple #[.string ⟨#[]⟩, .int .i64 1]) ∧ Below w.heap.size w w' := by
  have S := tvalid_any A n c X Y w h
  rw [tabB_false hb] at S
  have S1 := Lib.hid S
  clear S h hb
  go_enter Tryz.func23, Tryz.ntmps23
  go_wp2_with (first | (go_at_call 44; (with_reducible refine (S1.out).mono ?_); rintro e w2 ⟨rfl, hb2⟩; have HB2 := Lib.hid hb2; clear hb2))
  go_ret2
  exact ⟨rfl, HB2.out⟩
set_option maxRecDepth 100000 in
set_option maxHeartbeats 4000000 in
theorem ttext (b off n c : Nat) (X Y : Nat → Int) (w : World) (hok : TabOK n X Y) (ht : TabAt w b off n X Y) (hE : Env w) :
    Calls Tryz.prog 23 #[.slice (some ⟨b, off, none⟩) n c] w fun e w' => e = .returned (.tuple #[.string ⟨(txL X Y n).toArray⟩, .int .i64 0]) ∧ Below w.heap.size w w' := by
  have hbw := ht.1
  have HT := Lib.hid ht
  have HE := Lib.hid hE
  have HOK := Lib.hid hok
  have S := tvalid b off n c X Y w hok.1 hok.2.1 ht
  rw [tabB_true hok] at S
  have S1 := Lib.hid S
  have SJ := Lib.hid fun A c hnc w hs => tjoin A n c (fun k => (kst X Y n).getD k ByteArray.empty) hnc (by have := hok.2.1; omega) (fun k hk => by
    rw [kst_at X Y hk]
    show (ktx (X k) (Y k)).length ≤ 600
    have h1 := itoa_len (hok.near k hk).1
    have h2 := itoa_len (hok.near k hk).2
    unfold ktx
    simp only [List.length_append, List.length_cons]
    omega) w hs
  rw [wl_kst, jn_kst] at SJ
  have HN := Lib.hid hok.2.1
  obtain ⟨SI0, si0, sz0, sz1, sz2⟩ := info_parts1 infoS
  have SI1 := Lib.hid si0
  have SI2 := Lib.hid sz0
  have SI3 := Lib.hid sz1
  have SI4 := Lib.hid sz2
  clear si0 sz0 sz1 sz2 S hok hE ht
  go_enter Tryz.func23, Tryz.ntmps23
  go_wp2_with (first | (go_at_call 44; (with_reducible refine (S1.out).mono ?_); rintro e w2 ⟨rfl, hb2⟩; have HB2 := Lib.hid hb2; clear hb2))
  go_loopw [4, 12] (fun u v wr => ∃ (i : Nat), Hid (i ≤ n) ∧ v = .int .i64 i ∧ Hid (RMem w2 wr u i (kst X Y i))) (fun _ v _ => n - (intOf v).toNat)
  case atStart => exact ⟨0, Nat.zero_le _, rfl, World.ownsRow_nil _ _ _ _, Below.refl _ _⟩
  case round =>
    obtain ⟨i, Hi, rfl, HQ⟩ := hrel
    obtain ⟨A8, cap8, h8⟩ := HQ.out.form
    subst h8
    have HWr := Lib.hid (below_step HB2.out HQ.out.2)
    by_cases hlt : i < n
    case neg =>
      have hin : i = n := by have := Hi.out; omega
      subst hin
      obtain ⟨A9, cap9, h9, h10, h11⟩ := HQ.out.strs (kst_len X Y i).symm (by have := HN.out; omega)
      cases h9
      have SJ2 := Lib.hid (SJ.out A8 cap8 h10 wr h11)
      have T0 : decide ((i : Int) < (i : Int)) = false := by simp
      clear hlt h10 h11 HQ SJ
      go_wp2_with (first | (go_at_call 45; (with_reducible refine (SJ2.out).mono ?_); rintro e w3 ⟨rfl, hb3⟩; have HB3 := Lib.hid hb3; clear hb3))
      go_ret2
      exact ⟨rfl, below_step HWr.out HB3.out⟩
    have T0 : decide ((i : Int) < (n : Int)) = true := by simp <;> omega
    have T0' : decide (i < n) = true := decide_eq_true hlt
    obtain ⟨i', hi'⟩ : ∃ z, z = i + 1 := ⟨_, rfl⟩
    have x0 : IntKind.i64.wrap ((i : Int) + 1) = (i' : Int) := by have := HN.out; rw [IntKind.wrap_i64]; omega
    have HI' : Hid (i' ≤ n) := by show i' ≤ n; omega
    have HMS : Hid (n - (RowKit.intOf (Value.int .i64 (i' : Int))).toNat < n - (RowKit.intOf (Value.int .i64 (i : Int))).toNat) := by show _ < _; simp [RowKit.intOf]; omega
    have k0 : (0 : Int) ≤ (i : Int) := by omega
    have k1 : (i : Int) < (n : Int) := by omega
    have HII : Hid (i + 1 = i') := hi'.symm
    have HTr := HT.out.below HWr.out hbw
    have hx1 := (HTr.2 i hlt).1
    have hy1 := (HTr.2 i hlt).2
    have hn1 := (HOK.out.near i hlt).1
    have hn2 := (HOK.out.near i hlt).2
    have L1 := Lib.hid fun w hE => titoa (X i) (by unfold near at hn1; omega) (by unfold near at hn1; omega) w hE
    have L2 := Lib.hid fun w hE => titoa (Y i) (by unfold near at hn2; omega) (by unfold near at hn2; omega) w hE
    have z1 := itoa_size hn1
    have z2 := itoa_size hn2
    have EQ : Hid (((⟨(Lib.itoa (X i)).toArray⟩ : ByteArray) ++ ⟨#[58]⟩) ++ ⟨(Lib.itoa (Y i)).toArray⟩ = ⟨(ktx (X i) (Y i)).toArray⟩) := by
      show _ = _
      apply ByteArray.ext
      apply Array.ext'
      simp [ByteArray.data_append, ktx]
    have HER := Lib.hid (HE.out.below HWr.out)
    generalize (⟨(Lib.itoa (X i)).toArray⟩ : ByteArray) = x1 at L1 z1 EQ
    generalize (⟨(Lib.itoa (Y i)).toArray⟩ : ByteArray) = x2 at L2 z2 EQ
    have HKS : Hid (kst X Y i' = kst X Y i ++ [(x1 ++ ⟨#[58]⟩) ++ x2]) := by show _ = _; rw [hi', kst_succ, EQ.out]
    obtain ⟨s1, e1q⟩ : ∃ z : ByteArray, x1 ++ ⟨#[58]⟩ = z := ⟨_, rfl⟩
    rw [e1q] at HKS
    have sb1 : s1.size ≤ 20 := by rw [← e1q, ByteArray.size_append]; show x1.size + 1 ≤ 20; omega
    obtain ⟨l1, e2q⟩ : ∃ z : ByteArray, s1 ++ x2 = z := ⟨_, rfl⟩
    rw [e2q] at HKS
    have v1 : ((x1.size : Nat) : Int) ≤ 8388608 := by omega
    have v2 : ((x2.size : Nat) : Int) ≤ 8388608 := by omega
    have v3 : ((s1.size : Nat) : Int) ≤ 8388608 := by omega
    have lm1 : ¬ 9223372036854775807 < x1.size + 1 := by omega
    have lm2 : ¬ 9223372036854775807 < s1.size + x2.size := by omega
    have HIN := Lib.hid (show i ≤ 100 by have := HN.out; omega)
    clear hi' hlt EQ z1 z2 sb1 hn1 hn2 HTr
    go_upto_region 7 with fail
    have hal : Below wr.heap.size wr (wr.alloc (Obj.cells #[.int .i64 (X i), .int .i64 (Y i)] 44)) := (Below.refl _ wr).alloc (Nat.le_refl _) _
    have HBG := Lib.hid (Blk.new wr 44 #[.int .i64 (X i), .int .i64 (Y i)])
    have HQ4 := Lib.hid (HQ.out.call hal)
    have HW4 := Lib.hid (below_step HWr.out hal)
    have HE4 := Lib.hid (HER.out.below hal)
    clear hal hx1 hy1
    generalize wr.alloc (Obj.cells #[.int .i64 (X i), .int .i64 (Y i)] 44) = w4 at HBG HQ4 HW4 HE4 ⊢
    generalize wr.heap.size = G at HBG ⊢
    clear HQ HWr HER
    have HS : Hid (∀ w', Below w4.heap.size w4 w' → w'.cell? ⟨G, 0, none⟩ = some (.int .i64 (X i)) ∧ w'.cell? ⟨G, 1, none⟩ = some (.int .i64 (Y i))) := fun w' hb => ⟨(HBG.out.call hb).cell 0, (HBG.out.call hb).cell 1⟩
    have hs0 := HS.out w4 (Below.refl _ _)
    go_region_held3 (fun w' => w'.cell? ⟨G, 0, none⟩ = some (.int .i64 (X i)) ∧ w'.cell? ⟨G, 1, none⟩ = some (.int .i64 (Y i))) (first
      | exact hs0
      | exact y0
      | exact HS.out _ hq6
      | exact HS.out _ (hq6.alloc hq6.size _)
      | exact HS.out _ hq5
      | exact HS.out _ (Below.refl _ w4).drew
      | exact HS.out _ hq6.drew
      | exact HS.out _ hq5.drew
      | exact HS.out _ (hq6.drew.alloc hq6.size _)) (first
      | (go_at_call 25
         with_reducible refine (L1.out _ ?_).mono ?_
         focus (first | exact HE4.out | exact HE4.out.below (Below.refl _ w4).drew)
         rintro e w5 ⟨rfl, hb5⟩
         have hq5 : Below w4.heap.size w4 w5 := by first | exact hb5 | exact (Below.refl _ w4).drew.trans hb5
         clear hb5)
      | (go_at_call 25
         with_reducible refine (L2.out _ ?_).mono ?_
         focus (first | exact HE4.out.below hq5 | exact HE4.out.below hq5.drew)
         rintro e w6 ⟨rfl, hb6⟩
         have hq6 : Below w4.heap.size w4 w6 := by first | exact hq5.trans (hb6.mono hq5.size) | exact hq5.drew.trans (hb6.mono hq5.size)
         have HQ6 := Lib.hid (HQ4.out.call hq6)
         have HBG6 := Lib.hid (HBG.out.call hq6)
         clear hb6)
      | ((refine step_append_lies _ (by rfl) _ _ _ (by rfl) w2.heap.size 9 SI0 (.string ByteArray.empty) 1 16 Tryz.underlying82 SI1.out SI2.out SI3.out SI4.out rfl (by omega) (.slice A8 i cap8) (i) (sc (kst X Y i)) (by rfl) (HQ6.out.1.alloc _) ⟨w6.heap.size, 0, none⟩ 1 1 [.string l1] (by rfl) (by rfl) (World.news_of_block (cs := #[.string l1]) (t := 9) (fr := (0, 0)) (heap_alloc_new w6 _)) (by simp [Value.oneCell']) (by omega) (h63_t (by have := HIN.out; omega)) (hby_t (by have := HIN.out; omega)) (base_alloc1 HQ6.out.2.size _) (w6.heap.size + 1) (by simp) ?_
          intro gg capg wA hownA hgrowA hatA hltA
          have HM8 := Lib.hid (HQ6.out.app hownA hgrowA)
          have HBG9 := Lib.hid (blk_app HBG6.out HQ6.out (by decide) hgrowA)
          have y0 : wA.cell? ⟨G, 0, none⟩ = some (.int .i64 (X i)) ∧ wA.cell? ⟨G, 1, none⟩ = some (.int .i64 (Y i)) := ⟨HBG9.out.cell 0, HBG9.out.cell 1⟩
          clear hownA hgrowA hatA hltA)))
    all_goals
      clear hs0 y0 HS L1 L2 HBG hq5 hq6
      go_wp2_with fail
      go_roundw
      case rel => exact ⟨i', HI', rfl, by rw [HKS.out, ← HII.out]; exact HM8.out⟩
      case measure => exact HMS.out
end Go.Proofs.YthbdeaglncoanaaGreatDoor

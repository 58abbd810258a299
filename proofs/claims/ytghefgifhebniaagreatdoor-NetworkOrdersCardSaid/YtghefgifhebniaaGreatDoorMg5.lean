/- Merged texts of these proofs: Trn, DsP, Dst, Wlk, OrL, Lop. -/
import Derived.Test.YtghefgifhebniaaGreatDoorDgX
import Derived.Test.YtghefgifhebniaaGreatDoorEdg
import Derived.Test.YtghefgifhebniaaGreatDoorMgE
import Derived.Test.YtghefgifhebniaaGreatDoorMgD
import Derived.Deep.AppendLies
import Derived.Test.YtghefgifhebniaaGreatDoorDgV
import Derived.Lib.LazyBuf
namespace Go.Proofs.YtghefgifhebniaaGreatDoor
open Go.RowKit
set_option linter.unusedVariables false
set_option linter.unusedSimpArgs false
set_option maxRecDepth 100000 in
set_option maxHeartbeats 4000000 in
theorem dturned (A : Option Addr) (m c : Nat) (X Y : Nat → Int) (w : World) (hm : m ≤ 1000) (ht : TabIn w A m X Y) :
 Calls Tryz.prog 137 #[.slice A m c] w (EdPost m Y X w) := by
 obtain ⟨i0, hi0, hz0, hz1, hz2⟩ := info_parts1 infoE
 have HI0 := Lib.hid hi0
 have HZ0 := Lib.hid hz0
 have HZ1 := Lib.hid hz1
 have HZ2 := Lib.hid hz2
 have HM := Lib.hid hm
 have HT := Lib.hid ht
 clear hi0 hz0 hz1 hz2 hm ht
 go_enter Tryz.func137, Tryz.ntmps137
 go_wp2_with fail
 go_loopw [3, 8] (fun u x wr => ∃ i : Nat, Hid (i ≤ m) ∧ x = .int .i64 i ∧ Hid (EMem w wr u i (edl i Y X))) (fun _ x _ => m - (RowKit.intOf x).toNat)
 case atStart => exact ⟨0, Nat.zero_le _, rfl, World.ownsRow_nil _ _ _ _, Below.refl _ w⟩
 case round =>
  obtain ⟨i, Hi, rfl, HMM⟩ := hrel
  obtain ⟨A0, cap0, h8⟩ := HMM.out.form
  subst h8
  by_cases hlt : i < m
  case neg =>
   have e : i = m := by have := Hi.out; omega
   have T0 : decide ((i : Int) < (m : Int)) = false := by simp <;> omega
   have T0' : decide (i < m) = false := decide_eq_false hlt
   have HIE := Lib.hid e
   clear e hlt
   go_wp2_with fail
   go_ret
   exact ⟨_, rfl, by have := HIE.out; subst this; exact HMM.out⟩
  have T0 : decide ((i : Int) < (m : Int)) = true := by simp <;> omega
  have T0' : decide (i < m) = true := decide_eq_true hlt
  obtain ⟨i', hi'⟩ : ∃ z, z = i + 1 := ⟨_, rfl⟩
  have x0 : IntKind.i64.wrap ((i : Int) + 1) = (i' : Int) := by have := HM.out; rw [IntKind.wrap_i64]; omega
  have HI' : Hid (i' ≤ m ∧ i' = i + 1) := ⟨by omega, hi'⟩
  have HMS : Hid (m - (RowKit.intOf (Value.int .i64 (i' : Int))).toNat < m - (RowKit.intOf (Value.int .i64 (i : Int))).toNat) := by show _ < _; simp [RowKit.intOf]; omega
  have k0 : (0 : Int) ≤ (i : Int) := by omega
  have k1 : (i : Int) < (m : Int) := by omega
  have HIN : Hid (i ≤ 2000) := by show i ≤ 2000; have := HM.out; omega
  obtain ⟨b, off, hA, hb, c0, c1⟩ := (HT.out.below (Nat.le_refl _) HMM.out.2).at hlt
  subst hA
  have HL' : Hid (edl i' Y X = edl i Y X ++ [(Y i, X i)]) := by show _ = _; rw [HI'.out.2, edl_succ]
  obtain ⟨x, hxx⟩ : ∃ x : Int, X i = x := ⟨_, rfl⟩
  obtain ⟨y, hyy⟩ : ∃ y : Int, Y i = y := ⟨_, rfl⟩
  rw [hxx] at c0 HL'
  rw [hyy] at c1 HL'
  clear hi' hlt hxx hyy
  go_upto_region 5 with fail
  have hal : Below wr.heap.size wr (wr.alloc (Obj.cells #[.int .i64 x, .int .i64 y] 38)) := (Below.refl _ wr).alloc (Nat.le_refl _) _
  have HBG : Hid (Blk (wr.alloc (Obj.cells #[.int .i64 x, .int .i64 y] 38)) wr.heap.size 38 #[.int .i64 x, .int .i64 y]) := Blk.new _ _ _
  have HM4 := Lib.hid (HMM.out.call hal)
  clear hal c0 c1 hb HMM
  generalize wr.alloc (Obj.cells _ 38) = w4 at HBG HM4 ⊢
  generalize wr.heap.size = G at HBG ⊢
  obtain ⟨hs3, hs4⟩ := two_cells HBG.out
  generalize edl i Y X = L at HM4 HL'
  generalize hL' : edl i' Y X = L' at HL'
  have HLL := Lib.hid hL'
  clear hL'
  go_wp2_with (first
   | (at_builtin; refine wpList_append_own_at _ ?q1_1 (.tmp 12) (.tmp 18) 28 ?q1_2 w.heap.size 38 i0 (.agg #[.int .i64 0, .int .i64 0]) 2 16 Tryz.underlying28 HI0.out HZ0.out HZ1.out HZ2.out ?q1_3 ?q1_4 (.slice A0 i cap0) i (kc L) ?q1_5 (HM4.out.1.alloc _) ⟨w4.heap.size, 0, none⟩ 1 1 [.int .i64 y, .int .i64 x] ?q1_7 (rfl) (World.news_of_block (cs := #[.int .i64 y, .int .i64 x]) (t := 38) (fr := (0, 0)) (heap_alloc_new w4 _)) (by simp [Value.oneCell']) (h63_e HIN.out) (hby_e HIN.out) (base_alloc1 HM4.out.2.size _) ?q1_14
      case q1_1 => exact rfl
      case q1_2 => exact rfl
      case q1_3 => exact rfl
      case q1_4 => decide
      case q1_5 => exact rfl
      case q1_7 => exact rfl
      intro u2 w7 hown2 hgrow2 hnil2 hat2
      have HM8 := Lib.hid (HM4.out.app hown2 hgrow2)
      clear hown2 hgrow2 hnil2 hat2))
  go_roundw
  case rel => exact ⟨i', HI'.out.1, rfl, by rw [HLL.out, HL'.out, HI'.out.2]; exact HM8.out⟩
  case measure => exact HMS.out
end Go.Proofs.YtghefgifhebniaaGreatDoor
namespace Go.Proofs.YtghefgifhebniaaGreatDoor
open Go.RowKit
set_option linter.unusedVariables false
set_option linter.unusedSimpArgs false
inductive Bk (X Y : Nat → Int) (m b : Nat) : Nat → Prop
 | one {k : Nat} (hb : b ≤ k) (h : nextP X Y m (k : Int) (b : Int)) : Bk X Y m b k
 | suc {k j : Nat} (hb : b ≤ k) (h : nextP X Y m (k : Int) (j : Int)) (hj : Bk X Y m b j) : Bk X Y m b k
structure DsB (n : Nat) (X Y : Nat → Int) (m b : Nat) (o : Nat → Int) : Prop where
 low : ∀ k, k < n → o k = -1 ∨ 1 ≤ o k
 inb : ∀ k, k < n → 1 ≤ o k → b ≤ k
 one : ∀ k, k < n → o k = 1 → nextP X Y m (k : Int) (b : Int)
 suc : ∀ k, k < n → 2 ≤ o k → ∃ j : Nat, j < n ∧ b ≤ j ∧ nextP X Y m (k : Int) (j : Int) ∧ o j = o k - 1
structure DstP (n : Nat) (X Y : Nat → Int) (m b : Nat) (o : Nat → Int) : Prop extends DsB n X Y m b o where
 cls : ∀ k j : Nat, k < n → j < n → b ≤ k → nextP X Y m (k : Int) (j : Int) → (j = b ∨ 1 ≤ o j) → 1 ≤ o k
theorem DstP.bk {n : Nat} {X Y : Nat → Int} {m b : Nat} {o : Nat → Int} (h : DstP n X Y m b o) : ∀ (t : Nat) (k : Nat), k < n → (o k).toNat = t → 1 ≤ o k → Bk X Y m b k := by
 intro t
 induction t using Nat.strongRecOn with
 | ind t ih =>
   intro k hk e h1
   by_cases h2 : 2 ≤ o k
   · obtain ⟨j, hj, hbj, hn, ho⟩ := h.suc k hk h2
     exact .suc (h.inb k hk h1) hn (ih (o j).toNat (by omega) j hj rfl (by omega))
   · exact .one (h.inb k hk h1) (h.one k hk (by omega))
theorem DstP.iff {n : Nat} {X Y : Nat → Int} {m b : Nat} {o : Nat → Int} (h : DstP n X Y m b o) (hE : EdOK n X Y m) (hb : b < n) {k : Nat} (hk : k < n) : 1 ≤ o k ↔ Bk X Y m b k := by
 refine ⟨fun h1 => h.bk _ k hk rfl h1, fun hB => ?_⟩
 clear hk
 have : k < n ∧ 1 ≤ o k := by
  induction hB with
  | one hb' hn =>
    obtain ⟨i, hi, e1, e2⟩ := hn
    have h1 := hE.x i hi
    exact ⟨by omega, h.cls _ b (by omega) hb hb' ⟨i, hi, e1, e2⟩ (.inl rfl)⟩
  | suc hb' hn _ ih =>
    obtain ⟨i, hi, e1, e2⟩ := hn
    have h1 := hE.x i hi
    exact ⟨by omega, h.cls _ _ (by omega) ih.1 hb' ⟨i, hi, e1, e2⟩ (.inr ih.2)⟩
 exact this.2
theorem DsB.step {n : Nat} {X Y : Nat → Int} {m b : Nat} {o : Nat → Int} (h : DsB n X Y m b o) {k : Nat} (hk : k < n) (h2 : 2 ≤ o k) (hb : o k ≤ o b) : ∃ j : Nat, j < n ∧ b ≤ j ∧ j ≠ b ∧ nextP X Y m (k : Int) (j : Int) ∧ o j = o k - 1 := by
 obtain ⟨j, h1, h2, h3, h4⟩ := h.suc k hk h2
 exact ⟨j, h1, h2, fun e => by subst e; omega, h3, h4⟩
structure DsM (n : Nat) (X Y : Nat → Int) (m b : Nat) (o : Nat → Int) (d : Nat) (Q M : List Int) (R : Nat → Nat → Prop) : Prop extends DsB n X Y m b o where
 up : ∀ k, k < n → o k ≤ d
 d1 : 1 ≤ d
 q : ∀ z, z ∈ Q → ∃ v : Nat, v < n ∧ b ≤ v ∧ z = (v : Int) ∧ ((d = 1 ∧ v = b) ∨ (2 ≤ d ∧ o v = d - 1))
 mm : ∀ z, z ∈ M → ∃ v : Nat, v < n ∧ b ≤ v ∧ z = (v : Int) ∧ o v = d
 cls : ∀ k j : Nat, k < n → j < n → b ≤ k → nextP X Y m (k : Int) (j : Int) → (j = b ∨ 1 ≤ o j) → 1 ≤ o k ∨ R k j ∨ (j : Int) ∈ M
def rQ (Q : List Int) (i : Nat) (k j : Nat) : Prop := (j : Int) ∈ Q.drop i
def rK (X Y : Nat → Int) (m : Nat) (Q : List Int) (i v t : Nat) (k j : Nat) : Prop := (j : Int) ∈ Q.drop (i + 1) ∨ (j = v ∧ (k : Int) ∉ (nx Y X m (v : Int)).take t)
theorem DsM.start {n : Nat} {X Y : Nat → Int} {m b : Nat} (hb : b < n) : DsM n X Y m b (fun _ => -1) 1 [(b : Int)] [] (rQ [(b : Int)] 0) where
 low := fun _ _ => .inl rfl
 inb := fun _ _ h => by omega
 one := fun _ _ h => by omega
 suc := fun _ _ h => by omega
 up := fun _ _ => by omega
 d1 := by omega
 q := fun z hz => ⟨b, hb, Nat.le_refl _, List.mem_singleton.1 hz, .inl ⟨rfl, rfl⟩⟩
 mm := fun z hz => by simp at hz
 cls := fun k j _ _ _ _ h => by
  rcases h with h | h
  · exact .inr (.inl (by simp [rQ, h]))
  · omega
theorem DsM.opn {n : Nat} {X Y : Nat → Int} {m b : Nat} {o : Nat → Int} {d : Nat} {Q M : List Int} {i v : Nat} (h : DsM n X Y m b o d Q M (rQ Q i)) (hi : Q[i]? = some (v : Int)) : DsM n X Y m b o d Q M (rK X Y m Q i v 0) where
 toDsB := h.toDsB
 up := h.up
 d1 := h.d1
 q := h.q
 mm := h.mm
 cls := fun k j h1 h2 h3 h4 h5 => by
  rcases h.cls k j h1 h2 h3 h4 h5 with g | g | g
  · exact .inl g
  · refine .inr (.inl ?_)
    unfold rQ at g
    obtain ⟨hl, he⟩ := List.getElem?_eq_some_iff.1 hi
    rw [List.drop_eq_getElem_cons hl, he] at g
    rcases List.mem_cons.1 g with g | g
    · exact .inr ⟨by omega, by simp⟩
    · exact .inl g
  · exact .inr (.inr g)
theorem DsM.cl {n : Nat} {X Y : Nat → Int} {m b : Nat} {o : Nat → Int} {d : Nat} {Q M : List Int} {i v : Nat} (h : DsM n X Y m b o d Q M (rK X Y m Q i v (nx Y X m (v : Int)).length)) : DsM n X Y m b o d Q M (rQ Q (i + 1)) where
 toDsB := h.toDsB
 up := h.up
 d1 := h.d1
 q := h.q
 mm := h.mm
 cls := fun k j h1 h2 h3 h4 h5 => by
  rcases h.cls k j h1 h2 h3 h4 h5 with g | g | g
  · exact .inl g
  · rcases g with g | ⟨g, g'⟩
    · exact .inr (.inl g)
    · rw [List.take_length] at g'
      subst g
      obtain ⟨e, e1, e2, e3⟩ := h4
      exact absurd (mem_nx.2 ⟨e, e1, e3, e2⟩) g'
  · exact .inr (.inr g)
theorem DsM.skip {n : Nat} {X Y : Nat → Int} {m b : Nat} {o : Nat → Int} {d : Nat} {Q M : List Int} {i v t z : Nat} (h : DsM n X Y m b o d Q M (rK X Y m Q i v t)) (hz : (nx Y X m (v : Int)).take (t + 1) = (nx Y X m (v : Int)).take t ++ [(z : Int)]) (hs : ¬ (b ≤ z ∧ o z < 0)) (hzn : z < n) : DsM n X Y m b o d Q M (rK X Y m Q i v (t + 1)) where
 toDsB := h.toDsB
 up := h.up
 d1 := h.d1
 q := h.q
 mm := h.mm
 cls := fun k j h1 h2 h3 h4 h5 => by
  rcases h.cls k j h1 h2 h3 h4 h5 with g | g | g
  · exact .inl g
  · rcases g with g | ⟨g, g'⟩
    · exact .inr (.inl (.inl g))
    · by_cases e : k = z
      · subst e
        have := h.low k h1
        exact .inl (by omega)
      · refine .inr (.inl (.inr ⟨g, ?_⟩))
        rw [hz, List.mem_append, List.mem_singleton]
        rintro (hh | hh)
        · exact g' hh
        · omega
  · exact .inr (.inr g)
theorem DsM.set {n : Nat} {X Y : Nat → Int} {m b : Nat} {o : Nat → Int} {d : Nat} {Q M : List Int} {i v t z : Nat} (h : DsM n X Y m b o d Q M (rK X Y m Q i v t)) (hi : Q[i]? = some (v : Int)) (hz : (nx Y X m (v : Int)).take (t + 1) = (nx Y X m (v : Int)).take t ++ [(z : Int)]) (hm : (z : Int) ∈ nx Y X m (v : Int)) (hb : b ≤ z) (ho : o z < 0) (hzn : z < n) : DsM n X Y m b (wset o z d) d Q (M ++ [(z : Int)]) (rK X Y m Q i v (t + 1)) := by
 have hd := h.d1
 obtain ⟨v', hv1, hv2, hv3, hv4⟩ := h.q _ (List.mem_of_getElem? hi)
 obtain rfl : v = v' := by omega
 have hn : nextP X Y m (z : Int) (v : Int) := by
  obtain ⟨e, e1, e2, e3⟩ := mem_nx.1 hm
  exact ⟨e, e1, e3, e2⟩
 have keep : ∀ k, 1 ≤ o k → wset o z d k = o k := fun k hk => wset_other _ _ _ _ (fun e => by subst e; omega)
 have same : ∀ k, k ≠ z → wset o z d k = o k := fun k hk => wset_other _ _ _ _ hk
 have at_ : wset o z d z = d := wset_same _ _ _
 refine { low := fun k hk => ?_, inb := fun k hk h1 => ?_, one := fun k hk h1 => ?_, suc := fun k hk h2 => ?_, up := fun k hk => ?_, d1 := hd, q := fun x hx => ?_, mm := fun x hx => ?_, cls := fun k j h1 h2 h3 h4 h5 => ?_ }
 · by_cases e : k = z
   · subst e; rw [at_]; omega
   · rw [same k e]; exact h.low k hk
 · by_cases e : k = z
   · subst e; exact hb
   · rw [same k e] at h1; exact h.inb k hk h1
 · by_cases e : k = z
   · subst e
     rw [at_] at h1
     rcases hv4 with ⟨_, g⟩ | ⟨g, _⟩
     · rw [← g]; exact hn
     · omega
   · rw [same k e] at h1; exact h.one k hk h1
 · by_cases e : k = z
   · subst e
     rw [at_] at h2 ⊢
     rcases hv4 with ⟨g, _⟩ | ⟨_, g⟩
     · omega
     · exact ⟨v, hv1, hv2, hn, by rw [keep v (by omega), g]⟩
   · rw [same k e] at h2 ⊢
     obtain ⟨j, j1, j2, j3, j4⟩ := h.suc k hk h2
     exact ⟨j, j1, j2, j3, by rw [keep j (by omega), j4]⟩
 · by_cases e : k = z
   · subst e; rw [at_]; omega
   · rw [same k e]; exact h.up k hk
 · obtain ⟨u, u1, u2, u3, u4⟩ := h.q x hx
   refine ⟨u, u1, u2, u3, ?_⟩
   rcases u4 with g | ⟨g, g'⟩
   · exact .inl g
   · exact .inr ⟨g, by rw [keep u (by omega), g']⟩
 · rcases List.mem_append.1 hx with hx | hx
   · obtain ⟨u, u1, u2, u3, u4⟩ := h.mm x hx
     exact ⟨u, u1, u2, u3, by rw [keep u (by omega), u4]⟩
   · exact ⟨z, hzn, hb, List.mem_singleton.1 hx, at_⟩
 · by_cases ek : k = z
   · subst ek; rw [at_]; exact .inl (by omega)
   · rw [same k ek]
     by_cases ej : j = z
     · subst ej; exact .inr (.inr (by simp))
     · rw [same j ej] at h5
       rcases h.cls k j h1 h2 h3 h4 h5 with g | g | g
       · exact .inl g
       · rcases g with g | ⟨g, g'⟩
         · exact .inr (.inl (.inl g))
         · refine .inr (.inl (.inr ⟨g, ?_⟩))
           rw [hz, List.mem_append, List.mem_singleton]
           rintro (hh | hh)
           · exact g' hh
           · omega
       · exact .inr (.inr (List.mem_append.2 (.inl g)))
theorem DsM.next {n : Nat} {X Y : Nat → Int} {m b : Nat} {o : Nat → Int} {d : Nat} {Q M : List Int} {i : Nat} (h : DsM n X Y m b o d Q M (rQ Q i)) (hi : Q.length ≤ i) : DsM n X Y m b o (d + 1) M [] (rQ M 0) where
 toDsB := h.toDsB
 up := fun k hk => by have := h.up k hk; omega
 d1 := by omega
 q := fun z hz => by
   obtain ⟨v, h1, h2, h3, h4⟩ := h.mm z hz
   exact ⟨v, h1, h2, h3, .inr ⟨by have := h.d1; omega, by omega⟩⟩
 mm := fun z hz => by simp at hz
 cls := fun k j h1 h2 h3 h4 h5 => by
  rcases h.cls k j h1 h2 h3 h4 h5 with g | g | g
  · exact .inl g
  · unfold rQ at g
    rw [List.drop_eq_nil_of_le hi] at g
    simp at g
  · exact .inr (.inl (by simpa [rQ] using g))
theorem DsM.done {n : Nat} {X Y : Nat → Int} {m b : Nat} {o : Nat → Int} {d : Nat} (h : DsM n X Y m b o d [] [] (rQ [] 0)) : DstP n X Y m b o where
 toDsB := h.toDsB
 cls := fun k j h1 h2 h3 h4 h5 => by
  rcases h.cls k j h1 h2 h3 h4 h5 with g | g | g
  · exact g
  · simp [rQ] at g
  · simp at g
def cntU (n : Nat) (o : Nat → Int) : Nat := ((List.range n).filter fun v => decide (o v < 0)).length
theorem cntU_le (n : Nat) (o : Nat → Int) : cntU n o ≤ n := by
 unfold cntU
 exact Nat.le_trans (List.length_filter_le _ _) (by simp)
theorem cntU_set {o : Nat → Int} {k : Nat} {d : Int} (ho : o k < 0) (hd : 0 ≤ d) : ∀ n, cntU n (wset o k d) + (if k < n then 1 else 0) = cntU n o := by
 intro n
 induction n with
 | zero => simp [cntU]
 | succ n ih =>
   unfold cntU at ih ⊢
   rw [List.range_succ, List.filter_append, List.filter_append, List.length_append, List.length_append]
   by_cases e : n = k
   · subst e
     have h1 : ((List.range n).filter fun v => decide (wset o n d v < 0)) = (List.range n).filter fun v => decide (o v < 0) := by
        refine List.filter_congr fun v hv => ?_
        rw [wset_other _ _ _ _ (by have := List.mem_range.1 hv; omega)]
     rw [h1]
     simp only [List.filter_cons, wset_same, List.filter_nil]
     rw [if_neg (by simp; omega), if_pos (by omega), if_pos (by simpa using ho)]
     simp
   · simp only [List.filter_cons, List.filter_nil, wset_other _ _ _ _ e]
     by_cases g : k < n
     · rw [if_pos g] at ih
       rw [if_pos (by omega : k < n + 1)]
       omega
     · rw [if_neg g] at ih
       rw [if_neg (by omega : ¬ k < n + 1)]
       omega
end Go.Proofs.YtghefgifhebniaaGreatDoor
namespace Go.Proofs.YtghefgifhebniaaGreatDoor
open Go.RowKit
set_option linter.unusedVariables false
set_option linter.unusedSimpArgs false
theorem wcs_congr {n : Nat} {W W' : Nat → Int} (h : ∀ v, v < n → W v = W' v) : wcs n W = wcs n W' := by
 unfold wcs
 congr 1
 exact List.map_congr_left fun v hv => by rw [h v (List.mem_range.1 hv)]
theorem qat_one {B g : Nat} {w : World} {z : Int} (hB : B ≤ g) (h : Blk w g 3 #[.int .i64 z]) : QAt B w g 0 1 [z] := by
 refine ⟨hB, by simp, _, h, by simp, by simp, by simp [maxLen], fun j v hj => ?_⟩
 cases j with
 | zero => simpa [ic] using hj
 | succ j => simp [ic] at hj
def DstPost (n : Nat) (X Y : Nat → Int) (m b : Nat) (w : World) (e : Ending) (w' : World) : Prop :=
 ∃ (g : Nat) (o : Nat → Int), e = .returned (.slice (some ⟨g, 0, none⟩) n n) ∧ w.heap.size ≤ g ∧ Blk w' g 3 (wcs n o) ∧ DstP n X Y m b o ∧ (∀ k, k < n → o k ≤ 1000) ∧ Below w.heap.size w w'
set_option maxRecDepth 100000 in
set_option maxHeartbeats 8000000 in
theorem ddist (A : Option Addr) (n m c b : Nat) (X Y : Nat → Int) (w : World) (hn : n ≤ 300) (hm : m ≤ 1000) (hb : b < n) (hE : EdOK n X Y m) (ht : TabIn w A m X Y) :
 Calls Tryz.prog 93 #[.int .i64 n, .slice A m c, .int .i64 b, .int .i64 b, .bool true] w (DstPost n X Y m b w) := by
 obtain ⟨i0, hi0, hz0, hz1, hz2⟩ := info_parts1 infoI
 have HI0 := Lib.hid hi0
 have HZ0 := Lib.hid hz0
 have HZ1 := Lib.hid hz1
 have HZ2 := Lib.hid hz2
 have HN := Lib.hid hn
 have HM := Lib.hid hm
 have HE := Lib.hid hE
 have HBN := Lib.hid hb
 have S1 := Lib.hid (dturned A m c X Y w hm ht)
 have S2 : Hid (∀ A' c' w', TabIn w' A' m Y X → Calls Tryz.prog 92 #[.int .i64 n, .slice A' m c'] w' (NextPost n Y X m w')) := fun A' c' w' h => dnext A' n m c' Y X w' hn hm ⟨hE.y, hE.x⟩ h
 have hmk := mk_run 32 3 n 8 (.int .i64 0) infoI Tryz.underlying32 rfl (by omega) (by omega)
 obtain ⟨Z, hZ⟩ : ∃ Z, ((List.range n).map fun _ => Value.int .i64 0).toArray = Z := ⟨_, rfl⟩
 rw [hZ] at hmk
 have HZ : Hid (Z = wcs n fun _ => 0) := hZ.symm
 clear hi0 hz0 hz1 hz2 hn hm hE ht hZ hb
 go_enter Tryz.func93, Tryz.ntmps93
 go_wp2_with (first
  | (go_at_call 137
     with_reducible refine S1.out.mono ?_
     rintro e w1 ⟨u1, rfl, hm1⟩
     obtain ⟨A1, c1, hu1, ht1⟩ := hm1.tab (Nat.le_trans HM.out (by decide))
     subst hu1
     have HB1 : Hid (Below w.heap.size w w1) := hm1.2
     have HT1 := Lib.hid ht1
     clear hm1 ht1)
  | (go_at_call 92
     with_reducible refine (S2.out A1 c1 w1 HT1.out).mono ?_
     rintro e w2 ⟨bb, rfl, hbw, ha2, hb2⟩
     have HA := Lib.hid ha2
     have HB2 : Hid (Below w.heap.size w w2) := HB1.out.trans (hb2.mono HB1.out.size)
     clear hbw ha2 hb2))
 clear hmk S1 S2 HT1 HB1
 have HWA : Hid (Blk (w2.alloc (Obj.cells Z 3)) w2.heap.size 3 (wcs n fun _ => 0)) := by
  have := Blk.new w2 3 Z
  rwa [HZ.out] at this ⊢
 have HWB : Hid (Below w2.heap.size w2 (w2.alloc (Obj.cells Z 3))) := (Below.refl _ w2).alloc (Nat.le_refl _) _
 clear HZ
 generalize w2.alloc (Obj.cells Z 3) = w3 at HWA HWB ⊢
 go_loopw [29] (fun x wr => ∃ (j : Nat) (W : Nat → Int), x = .int .i64 j ∧ Hid (j ≤ n) ∧ Hid (Blk wr w2.heap.size 3 (wcs n W)) ∧ Hid (Below w2.heap.size w2 wr) ∧ Hid (∀ k : Nat, k < n → W k = if k < j then -1 else 0)) (fun x _ => n - (RowKit.intOf x).toNat)
 case atStart => exact ⟨0, _, rfl, Nat.zero_le _, HWA, HWB, fun k _ => by simp⟩
 case round =>
  clear HWA HWB
  obtain ⟨j, W, rfl, Hj, HWA, HWB, HW⟩ := hrel
  by_cases hlt : j < n
  · have T0 : decide ((j : Int) < (n : Int)) = true := by simp <;> omega
    have T0' : decide (j < n) = true := decide_eq_true hlt
    obtain ⟨j', hj'⟩ : ∃ z, z = j + 1 := ⟨_, rfl⟩
    have x0 : IntKind.i64.wrap ((j : Int) + 1) = (j' : Int) := by have := HN.out; rw [IntKind.wrap_i64]; omega
    have HJ' : Hid (j' ≤ n ∧ j' = j + 1) := ⟨by omega, hj'⟩
    have HMS : Hid (n - (RowKit.intOf (Value.int .i64 (j' : Int))).toNat < n - (RowKit.intOf (Value.int .i64 (j : Int))).toNat) := by show _ < _; simp [RowKit.intOf]; omega
    have k0 : (0 : Int) ≤ (j : Int) := by omega
    have k1 : (j : Int) < (n : Int) := by omega
    have cw := HWA.out.cell j
    have fw := HWA.out.frozen j
    rw [wcs_at hlt] at cw
    obtain ⟨wv, hwv⟩ : ∃ wv, W j = wv := ⟨_, rfl⟩
    rw [hwv] at cw
    clear hj' hwv hlt
    go_wp2_with fail
    go_roundw
    case rel =>
        refine ⟨j', wset W j (-1), rfl, HJ'.out.1, by have := HWA.out.set_ j (.int .i64 (-1)); rwa [wcs_set] at this, HWB.out.setCell (p := ⟨w2.heap.size, j, none⟩) (Nat.le_refl _) _, fun k hk => ?_⟩
        rw [HJ'.out.2]
        by_cases e : k = j
        · subst e; rw [wset_same, if_pos (by omega)]
        · rw [wset_other _ _ _ _ e, HW.out k hk]
          by_cases e2 : k < j
          · rw [if_pos e2, if_pos (by omega)]
          · rw [if_neg e2, if_neg (by omega)]
    case measure => exact HMS.out
  · have e : j = n := by have := Hj.out; omega
    have T0 : decide ((j : Int) < (n : Int)) = false := by simp <;> omega
    have T0' : decide (j < n) = false := decide_eq_false hlt
    have HW1 : Hid (wcs n W = wcs n fun _ => -1) := wcs_congr fun v hv => by rw [HW.out v hv, if_pos (by omega)]
    clear hlt Hj HW
    have hWA := HWA.out
    rw [HW1.out] at hWA
    have HWA := Lib.hid hWA
    clear hWA HW1 e
    go_wp2_with fail
    have HWA2 : Hid (Blk (wr.alloc (Obj.cells #[.int .i64 (b : Int)] 3)) w2.heap.size 3 (wcs n fun _ => -1)) := HWA.out.alloc _
    have HWB2 : Hid (Below w2.heap.size w2 (wr.alloc (Obj.cells #[.int .i64 (b : Int)] 3))) := HWB.out.alloc HWB.out.size _
    have HQ0 : Hid (QAt (w2.heap.size + 1) (wr.alloc (Obj.cells #[.int .i64 (b : Int)] 3)) wr.heap.size 0 1 [(b : Int)]) := qat_one HWA.out.lt (Blk.new _ _ _)
    have HD0 : Hid (DsM n X Y m b (fun _ => -1) 1 [(b : Int)] [] (rQ [(b : Int)] 0)) := DsM.start HBN.out
    have HC0 : Hid (cntU n (fun _ => -1) ≤ n) := cntU_le _ _
    clear HWA HWB
    generalize wr.alloc (Obj.cells #[.int .i64 (b : Int)] 3) = w4 at HWA2 HWB2 HQ0 ⊢
    generalize wr.heap.size = q0 at HQ0 ⊢
    go_loopg [14, 15] (2 * cntU n (fun _ => -1) + 1) (fun gm u x wr => ∃ (d : Nat) (Q : List Int) (o : Nat → Int), x = .int .i64 d ∧ Hid (RdyIs (w2.heap.size + 1) wr u Q none) ∧ Hid (Blk wr w2.heap.size 3 (wcs n o)) ∧ Hid (Below w2.heap.size w2 wr) ∧ Hid (DsM n X Y m b o d Q [] (rQ Q 0)) ∧ Hid ((d + cntU n o ≤ n + 1 ∨ (Q = [] ∧ d ≤ n + 2)) ∧ 2 * cntU n o + (if Q = [] then 0 else 1) ≤ gm ∧ Q.length ≤ n))
    case atStart => exact ⟨1, [(b : Int)], _, rfl, .inr ⟨q0, 0, 1, rfl, HQ0.out, by simp⟩, HWA2, HWB2, HD0, .inl (by have := HC0.out; omega), by simp, by have := HBN.out; simp; omega⟩
    case round =>
        clear HWA2 HWB2 HQ0 HD0 HC0
        obtain ⟨d, Q, o, rfl, HRD, HWA, HWB, HD, HG⟩ := hrel
        by_cases hQ : Q = []
        · subst hQ
          obtain ⟨A2, c2, h9⟩ := HRD.out.nil
          subst h9
          have T0 : decide ((0 : Int) < ((0 : Nat) : Int)) = false := by decide
          go_wp2_with fail
          go_ret
          exact ⟨w2.heap.size, o, rfl, HB2.out.size, HWA.out, HD.out.done, fun k hk => by have h1 := HD.out.up k hk; have h2 := HN.out; rcases HG.out.1 with h | h <;> omega, HB2.out.trans (HWB.out.mono HB2.out.size)⟩
        · rcases HRD.out with ⟨hr, _⟩ | ⟨g, off, cq, hu, hq, hsep⟩
          · exact absurd hr hQ
          subst hu
          have HQ := Lib.hid hq
          obtain ⟨N, hN⟩ : ∃ N, Q.length = N := ⟨_, rfl⟩
          have hN0 : 0 < N := by rw [← hN]; exact Nat.pos_of_ne_zero fun h => hQ (List.eq_nil_of_length_eq_zero h)
          have HNQ := Lib.hid hN
          have HQN := Lib.hid hQ
          rw [hN]
          have HGD : Hid (d + cntU n o ≤ n + 1 ∧ 2 * cntU n o + 1 ≤ gk) := by
           have h1 := HG.out
           rw [if_neg hQ] at h1
           exact ⟨by rcases h1.1 with h | h; exact h; exact absurd h.1 hQ, h1.2.1⟩
          have T0 : decide ((0 : Int) < (N : Int)) = true := decide_eq_true (by omega)
          have T0' : decide (0 < N) = true := decide_eq_true (by omega)
          have HNB : Hid (N ≤ 300) := by show N ≤ 300; have := HG.out.2.2; have := HN.out; omega
          clear hq hN hQ hsep HG HRD hN0
          go_wp2_with fail
          have HD1 := HD
          have HWA1 := HWA
          have HWB1 := HWB
          have HSP1 : Hid ((Value.slice none 0 0).ownBlock ≠ some g) := by show _ ≠ _; simp [Value.ownBlock]
          clear HD HWA HWB
          go_loopw [16, 50] (fun v x wr => ∃ (i : Nat) (M : List Int) (o' : Nat → Int), x = .int .i64 i ∧ Hid (i ≤ N) ∧ Hid (wr.ownsRow (w2.heap.size + 1) 3 1 v M.length (ic M)) ∧ Hid (QAt (w2.heap.size + 1) wr g off cq Q) ∧ Hid (v.ownBlock ≠ some g) ∧ Hid (Blk wr w2.heap.size 3 (wcs n o')) ∧ Hid (Below w2.heap.size w2 wr) ∧ Hid (DsM n X Y m b o' d Q M (rQ Q i)) ∧ Hid (cntU n o' + M.length = cntU n o)) (fun _ x _ => N - (RowKit.intOf x).toNat)
          case atStart => exact ⟨0, [], o, rfl, Nat.zero_le _, World.ownsRow_nil _ _ _ _, HQ, HSP1, HWA1, HWB1, HD1, rfl⟩
          case round =>
           clear HD1 HWA1 HWB1 HSP1 HQ
           obtain ⟨i, M, o', rfl, Hi, HO, HQ, HSP, HWA, HWB, HD, HC⟩ := hrel
           obtain ⟨Am, cm, h8⟩ := nr_form HO.out
           subst h8
           by_cases hlt : i < N
           · have T1 : decide ((i : Int) < (N : Int)) = true := by simp <;> omega
             have T1' : decide (i < N) = true := decide_eq_true hlt
             obtain ⟨i', hi'⟩ : ∃ z, z = i + 1 := ⟨_, rfl⟩
             have x1 : IntKind.i64.wrap ((i : Int) + 1) = (i' : Int) := by have := HNB.out; rw [IntKind.wrap_i64]; omega
             have HI' : Hid (i' ≤ N ∧ i' = i + 1) := ⟨by omega, hi'⟩
             have HMS : Hid (N - (RowKit.intOf (Value.int .i64 (i' : Int))).toNat < N - (RowKit.intOf (Value.int .i64 (i : Int))).toNat) := by show _ < _; simp [RowKit.intOf]; omega
             have k0 : (0 : Int) ≤ (i : Int) := by omega
             have k1 : (i : Int) < (N : Int) := by omega
             have hlQ : i < Q.length := by rw [HNQ.out]; exact hlt
             have hqi : Q[i]? = some (Q.getD i 0) := by simp [List.getD, hlQ]
             obtain ⟨vi, hvn, hvb, hve, _⟩ := HD.out.q _ (List.mem_of_getElem? hqi)
             rw [hve] at hqi
             have cqi := HQ.out.cell hlQ
             rw [hve] at cqi
             have HQI := Lib.hid hqi
             have HVN := Lib.hid hvn
             have k2 : (0 : Int) ≤ (vi : Int) := by omega
             have k3 : (vi : Int) < (n : Int) := by omega
             obtain ⟨Ai, ci, hrow, hels⟩ := af_row (wr := wr) HA.out hvn
             try dsimp only at hrow hels
             obtain ⟨K, hK⟩ : ∃ K, (nx Y X m (vi : Int)).length = K := ⟨_, rfl⟩
             have HKL := Lib.hid hK
             have HKM : Hid (K ≤ 1000) := by show K ≤ 1000; have := nx_len Y X m (vi : Int); have := HM.out; omega
             rw [hK] at hrow hels
             have c0 := hrow wr HWB.out
             have HELS := Lib.hid hels
             have HD2 := Lib.hid (HD.out.opn hqi)
             clear hi' hlt hlQ hqi hvn hvb hve hrow hels hK
             go_wp2_with fail
             have HO2 := HO
             have HQ2 := HQ
             have HSP2 := HSP
             have HWA2 := HWA
             have HWB2 := HWB
             have HC2 := HC
             clear HO HQ HSP HWA HWB HC HD
             obtain ⟨w0, hw0⟩ : ∃ w0 : World, w0 = wr := ⟨_, rfl⟩
             go_loopw [16, 59] (fun v x wr => ∃ (t : Nat) (M : List Int) (o' : Nat → Int), x = .int .i64 t ∧ Hid (t ≤ K) ∧ Hid (wr.ownsRow (w2.heap.size + 1) 3 1 v M.length (ic M)) ∧ Hid (QAt (w2.heap.size + 1) wr g off cq Q) ∧ Hid (v.ownBlock ≠ some g) ∧ Hid (Blk wr w2.heap.size 3 (wcs n o')) ∧ Hid (Below w2.heap.size w2 wr) ∧ Hid (DsM n X Y m b o' d Q M (rK X Y m Q i vi t)) ∧ Hid (cntU n o' + M.length = cntU n o)) (fun _ x _ => K - (RowKit.intOf x).toNat)
             case atStart => exact ⟨0, M, o', rfl, Nat.zero_le _, HO2, HQ2, HSP2, HWA2, HWB2, HD2, HC2⟩
             case round =>
              clear HO2 HQ2 HSP2 HWA2 HWB2 HC2 HD2 c0 cqi hw0
              obtain ⟨t, M, o', rfl, Ht, HO, HQ, HSP, HWA, HWB, HD, HC⟩ := hrel
              obtain ⟨Am, cm, h8⟩ := nr_form HO.out
              subst h8
              by_cases htl : t < K
              · have T2 : decide ((t : Int) < (K : Int)) = true := by simp <;> omega
                have T2' : decide (t < K) = true := decide_eq_true htl
                obtain ⟨t', ht'⟩ : ∃ z, z = t + 1 := ⟨_, rfl⟩
                have x2 : IntKind.i64.wrap ((t : Int) + 1) = (t' : Int) := by have := HKM.out; rw [IntKind.wrap_i64]; omega
                have HT' : Hid (t' ≤ K ∧ t' = t + 1) := ⟨by omega, ht'⟩
                have HMS2 : Hid (K - (RowKit.intOf (Value.int .i64 (t' : Int))).toNat < K - (RowKit.intOf (Value.int .i64 (t : Int))).toNat) := by show _ < _; simp [RowKit.intOf]; omega
                have j2 : (0 : Int) ≤ (t : Int) := by omega
                have j3 : (t : Int) < (K : Int) := by omega
                obtain ⟨gj, hAj, hcell⟩ := HELS.out t htl
                have hz : (nx Y X m (vi : Int))[t]? = some ((nx Y X m (vi : Int)).getD t 0) := by
                 have : t < (nx Y X m (vi : Int)).length := by rw [HKL.out]; exact htl
                 simp [List.getD, this]
                have hzz := nx_at hz
                obtain ⟨ke, hke, hyk, hxk⟩ := mem_nx.1 hzz.2.2
                have hbd := HE.out.x ke hke
                obtain ⟨z, hz1⟩ : ∃ z, (nx Y X m (vi : Int)).getD t 0 = z := ⟨_, rfl⟩
                rw [hz1] at hcell hzz hxk
                obtain ⟨kk, hkk⟩ : ∃ kk : Nat, z = (kk : Int) := ⟨z.toNat, by omega⟩
                subst hkk
                have hkn : kk < n := by omega
                have ce := hcell wr HWB.out
                have HZZ := Lib.hid hzz
                have HKN := Lib.hid hkn
                subst hAj
                have j4 : (0 : Int) ≤ (kk : Int) := by omega
                have j5 : (kk : Int) < (n : Int) := by omega
                have cw := HWA.out.cell kk
                have fw := HWA.out.frozen kk
                rw [wcs_at hkn] at cw
                obtain ⟨ov, hov⟩ : ∃ ov, o' kk = ov := ⟨_, rfl⟩
                rw [hov] at cw
                have HOV := Lib.hid hov
                have HBB : Hid (w2.heap.size + 1 ≤ wr.heap.size) := HWA.out.lt
                obtain ⟨NM, hNM⟩ : ∃ NM, M.length = NM := ⟨_, rfl⟩
                have HNM := Lib.hid hNM
                have HNM2 : Hid (NM ≤ 2000) := by show NM ≤ 2000; have := HC.out; have := cntU_le n o; have := HN.out; omega
                rw [hNM] at HO HSP ⊢
                by_cases hb1 : b ≤ kk
                · have B1 : decide ((b : Int) ≤ (kk : Int)) = true := decide_eq_true (by omega)
                  have B1' : decide (b ≤ kk) = true := decide_eq_true hb1
                  have HB3 := Lib.hid hb1
                  by_cases hb2 : ov < 0
                  · have B2 : decide (ov < 0) = true := decide_eq_true hb2
                    have HB4 := Lib.hid hb2
                    have HWAS : Hid (Blk (wr.setCell ⟨w2.heap.size, kk, none⟩ (.int .i64 (d : Int))) w2.heap.size 3 (wcs n (wset o' kk d))) := by have := HWA.out.set_ kk (.int .i64 (d : Int)); rwa [wcs_set] at this
                    have HWBS : Hid (Below w2.heap.size w2 (wr.setCell ⟨w2.heap.size, kk, none⟩ (.int .i64 (d : Int)))) := HWB.out.setCell (p := ⟨w2.heap.size, kk, none⟩) (Nat.le_refl _) _
                    have HOS : Hid ((wr.setCell ⟨w2.heap.size, kk, none⟩ (.int .i64 (d : Int))).ownsRow (w2.heap.size + 1) 3 1 (.slice Am NM cm) NM (ic M)) := HO.out.kept (gr_set wr w2.heap.size kk _) (.inr (fun e => by have := (HO.out.lt _ e).1; omega))
                    have HQS : Hid (QAt (w2.heap.size + 1) (wr.setCell ⟨w2.heap.size, kk, none⟩ (.int .i64 (d : Int))) g off cq Q) := HQ.out.grown (gr_set wr w2.heap.size kk _) (fun e => by have := HQ.out.1; have := Option.some.inj e; omega)
                    have HBBS : Hid (w2.heap.size + 1 ≤ (wr.setCell ⟨w2.heap.size, kk, none⟩ (.int .i64 (d : Int))).heap.size) := HWAS.out.lt
                    have HD2 : Hid (DsM n X Y m b (wset o' kk d) d Q (M ++ [(kk : Int)]) (rK X Y m Q i vi (t + 1))) := HD.out.set HQI.out hzz.1 hzz.2.2 hb1 (by omega) hkn
                    have HC2 : Hid (cntU n (wset o' kk d) + (M ++ [(kk : Int)]).length = cntU n o) := by
                       show _ = _
                       have h1 := cntU_set (o := o') (k := kk) (d := (d : Int)) (by omega) (by omega) n
                       rw [if_pos hkn] at h1
                       have h2 := HC.out
                       rw [List.length_append, List.length_singleton]
                       omega
                    clear ht' htl hcell hz hzz hke hyk hxk hbd hz1 hkn hov hNM hb1 hb2 HD HC HWA HWB HO HQ HBB
                    go_upto_region 23 with fail
                    generalize wr.setCell ⟨w2.heap.size, kk, none⟩ (.int .i64 (d : Int)) = wS at HWAS HWBS HOS HQS HBBS ⊢
                    go_wp2_with (first
                       | (at_builtin; refine wpList_append_own_at _ ?q2_1 (.tmp 77) (.tmp 79) 32 ?q2_2 (w2.heap.size + 1) 3 i0 (.int .i64 0) 1 8 Tryz.underlying32 HI0.out HZ0.out HZ1.out HZ2.out ?q2_3 ?q2_4 (.slice Am NM cm) NM (ic M) ?q2_5 (HOS.out.alloc _) ⟨wS.heap.size, 0, none⟩ 1 1 [.int .i64 (kk : Int)] ?q2_7 (rfl) (World.news_of_block (cs := #[.int .i64 (kk : Int)]) (t := 3) (fr := (0, 0)) (heap_alloc_new wS _)) (by simp [Value.oneCell']) (h63_n HNM2.out) (hby_n HNM2.out) (base_alloc1 HBBS.out _) ?q2_14
                          case q2_1 => exact rfl
                          case q2_2 => exact rfl
                          case q2_3 => exact rfl
                          case q2_4 => decide
                          case q2_5 => exact rfl
                          case q2_7 => exact rfl
                          intro u2 w7 hown2 hgrow2 hnil2 hat2
                          have HO7 := Lib.hid hown2
                          have HQ7 : Hid (QAt (w2.heap.size + 1) w7 g off cq Q) := (HQS.out.alloc _).grown hgrow2 (fun e => HSP.out e.symm)
                          have HSP7 : Hid (u2.ownBlock ≠ some g) := by
                           show _ ≠ _
                           rcases hat2 with h | h
                           · rw [h]; exact HSP.out
                           · rw [h]; intro e
                             have e2 := Option.some.inj e
                             have := HQS.out.lt
                             rw [World.size_alloc] at e2
                             omega
                          have HWA7 : Hid (Blk w7 w2.heap.size 3 (wcs n (wset o' kk d))) := (HWAS.out.alloc _).grown hgrow2 (fun e => by have := (HOS.out.lt _ e.symm).1; omega)
                          have HWB7 : Hid (Below w2.heap.size w2 w7) := below_grown (HWBS.out.alloc HWBS.out.size _) (by have := HWBS.out.size; simp at this ⊢; omega) hgrow2 (fun g' e => by have := (HOS.out.lt g' e).1; omega)
                          clear hown2 hgrow2 hnil2 hat2))
                    go_roundw
                    case rel =>
                       refine ⟨t', M ++ [(kk : Int)], wset o' kk d, rfl, HT'.out.1, ?_, HQ7, HSP7, HWA7, HWB7, (by rw [HT'.out.2]; exact HD2.out), HC2⟩
                       rw [ic_append, List.length_append, List.length_singleton, HNM.out]
                       exact HO7.out
                    case measure => exact HMS2.out
                  · have B2 : decide (ov < 0) = false := decide_eq_false hb2
                    have HD2 : Hid (DsM n X Y m b o' d Q M (rK X Y m Q i vi (t + 1))) := HD.out.skip hzz.1 (fun h => hb2 (by rw [← hov]; exact h.2)) hkn
                    clear ht' htl hcell hz hzz hke hyk hxk hbd hz1 hkn hov hNM hb1 hb2 HD
                    go_wp2_with fail
                    go_roundw
                    case rel => exact ⟨t', M, o', rfl, HT'.out.1, by rw [HNM.out]; exact HO.out, HQ, HSP, HWA, HWB, (by rw [HT'.out.2]; exact HD2.out), HC⟩
                    case measure => exact HMS2.out
                · have B1 : decide ((b : Int) ≤ (kk : Int)) = false := decide_eq_false (by omega)
                  have B1' : decide (b ≤ kk) = false := decide_eq_false hb1
                  have HD2 : Hid (DsM n X Y m b o' d Q M (rK X Y m Q i vi (t + 1))) := HD.out.skip hzz.1 (fun h => hb1 h.1) hkn
                  clear ht' htl hcell hz hzz hke hyk hxk hbd hz1 hkn hov hNM hb1 HD
                  go_wp2_with fail
                  go_roundw
                  case rel => exact ⟨t', M, o', rfl, HT'.out.1, by rw [HNM.out]; exact HO.out, HQ, HSP, HWA, HWB, (by rw [HT'.out.2]; exact HD2.out), HC⟩
                  case measure => exact HMS2.out
              · have e : t = K := by have := Ht.out; omega
                have T2 : decide ((t : Int) < (K : Int)) = false := by simp <;> omega
                have T2' : decide (t < K) = false := decide_eq_false htl
                have hdd := HD.out
                rw [e, ← HKL.out] at hdd
                have HD2 := Lib.hid hdd.cl
                clear htl e hdd HD
                go_wp2_with fail
                go_roundw
                case rel => exact ⟨i', M, o', rfl, HI'.out.1, HO, HQ, HSP, HWA, HWB, (by rw [HI'.out.2]; exact HD2.out), HC⟩
                case measure => exact HMS.out
           · have e : i = N := by have := Hi.out; omega
             have T1 : decide ((i : Int) < (N : Int)) = false := by simp <;> omega
             have T1' : decide (i < N) = false := decide_eq_false hlt
             obtain ⟨d', hd'⟩ : ∃ z, z = d + 1 := ⟨_, rfl⟩
             have x1 : IntKind.i64.wrap ((d : Int) + 1) = (d' : Int) := by have := HGD.out; have := HN.out; rw [IntKind.wrap_i64]; omega
             have HDD : Hid (d' = d + 1) := hd'
             have HD2 := Lib.hid (HD.out.next (i := i) (by rw [HNQ.out, e]; exact Nat.le_refl _))
             have HGM : Hid (2 * cntU n o' + (if M = [] then 0 else 1) < gk) := by
              show _ < _
              have h1 := HC.out
              have h2 := HGD.out.2
              by_cases hM : M = []
              · rw [if_pos hM]; subst hM; simp at h1; omega
              · rw [if_neg hM]
                have : 0 < M.length := Nat.pos_of_ne_zero fun h => hM (List.eq_nil_of_length_eq_zero h)
                omega
             have HGE : Hid ((d' + cntU n o' ≤ n + 1 ∨ (M = [] ∧ d' ≤ n + 2)) ∧ M.length ≤ n) := by
              show _ ∧ _
              have h1 := HC.out
              have h2 := HGD.out.1
              have h3 := cntU_le n o
              refine ⟨?_, by omega⟩
              by_cases hM : M = []
              · exact .inr ⟨hM, by omega⟩
              · have : 0 < M.length := Nat.pos_of_ne_zero fun h => hM (List.eq_nil_of_length_eq_zero h)
                exact .inl (by omega)
             clear e hlt hd' HD HQ HSP
             go_wp2_with fail
             go_roundg (2 * cntU n o' + (if M = [] then 0 else 1))
             case measure => exact HGM.out
             case rel => exact ⟨d', M, o', rfl, rdy_of_own HO.out, HWA, HWB, (by rw [HDD.out]; exact HD2.out), HGE.out.1, Nat.le_refl _, HGE.out.2⟩
end Go.Proofs.YtghefgifhebniaaGreatDoor
namespace Go.Proofs.YtghefgifhebniaaGreatDoor
open Go.RowKit
set_option linter.unusedVariables false
set_option linter.unusedSimpArgs false
def nxtB (b : Nat) (o : Nat → Int) (l : Int) (k : Nat) : Bool := decide (b ≤ k) && (decide (k ≠ b) && decide (o k = l))
set_option maxRecDepth 100000 in
set_option maxHeartbeats 4000000 in
theorem dw1 (k n g px pb pd pv b : Nat) (l : Int) (o : Nat → Int) (hk : k < n) (w : World) (h1 : w.cell? ⟨px, 0, none⟩ = some (.int .i64 b)) (h2 : w.cell? ⟨pb, 0, none⟩ = some (.int .i64 b)) (h3 : w.cell? ⟨pd, 0, none⟩ = some (.slice (some ⟨g, 0, none⟩) n n)) (h4 : w.cell? ⟨pv, 0, none⟩ = some (.int .i64 l)) (h5 : w.cell? ⟨g, k, none⟩ = some (.int .i64 (o k))) :
 Calls Tryz.prog 139 #[.int .i64 k, .pointer (some ⟨px, 0, none⟩), .pointer (some ⟨pb, 0, none⟩), .pointer (some ⟨pd, 0, none⟩), .pointer (some ⟨pv, 0, none⟩)] w fun e w' => e = .returned (.bool (nxtB b o l k)) ∧ Below w.heap.size w w' := by
 have k0 : (0 : Int) ≤ (k : Int) := by omega
 have k1 : (k : Int) < (n : Int) := by omega
 obtain ⟨ov, hov⟩ : ∃ z, o k = z := ⟨_, rfl⟩
 rw [hov] at h5
 by_cases hb : b ≤ k
 · have B1 : decide ((b : Int) ≤ (k : Int)) = true := decide_eq_true (by omega)
   have B1' : decide (b ≤ k) = true := decide_eq_true hb
   by_cases he : k = b
   · have hr : nxtB b o l k = false := by simp [nxtB, he]
     have B2 : ((k : Int) == (b : Int)) = true := by simp [he]
     have B2' : decide ((k : Int) = (b : Int)) = true := decide_eq_true (by omega)
     have B2'' : decide (k = b) = true := decide_eq_true he
     have B2c : ((k : Int) != (b : Int)) = false := by simp [he]
     have B2''' : (k == b) = true := by simp [he]
     rw [hr]
     clear hr hb he hk hov
     go_enter Tryz.func139, Tryz.ntmps139
     go_wp2_with fail
     go_quiet (fail)
     go_wp2_with fail
     go_ret
     exact ⟨rfl, bel⟩
   · have B2 : ((k : Int) == (b : Int)) = false := by simp; omega
     have B2' : decide ((k : Int) = (b : Int)) = false := decide_eq_false (by omega)
     have B2'' : decide (k = b) = false := decide_eq_false he
     have B2c : ((k : Int) != (b : Int)) = true := by simp; omega
     have B2''' : (k == b) = false := by simp [he]
     by_cases ho : ov = l
     · have hr : nxtB b o l k = true := by simp [nxtB, he, hb, hov, ho]
       have B3 : (ov == l) = true := by simp [ho]
       have B3' : decide (ov = l) = true := decide_eq_true ho
       rw [hr]
       clear hr hb he hk hov ho
       go_enter Tryz.func139, Tryz.ntmps139
       go_wp2_with fail
       go_quiet (fail)
       go_wp2_with fail
       go_ret
       exact ⟨rfl, bel⟩
     · have hr : nxtB b o l k = false := by simp [nxtB, he, hb, hov, ho]
       have B3 : (ov == l) = false := by simp [ho]
       have B3' : decide (ov = l) = false := decide_eq_false ho
       rw [hr]
       clear hr hb he hk hov ho
       go_enter Tryz.func139, Tryz.ntmps139
       go_wp2_with fail
       go_quiet (fail)
       go_wp2_with fail
       go_ret
       exact ⟨rfl, bel⟩
 · have hr : nxtB b o l k = false := by simp [nxtB, hb]
   have B1 : decide ((b : Int) ≤ (k : Int)) = false := decide_eq_false (by omega)
   have B1' : decide (b ≤ k) = false := decide_eq_false hb
   rw [hr]
   clear hr hb hk hov
   go_enter Tryz.func139, Tryz.ntmps139
   go_wp2_with fail
   go_quiet (fail)
   go_wp2_with fail
   go_ret
   exact ⟨rfl, bel⟩
set_option maxRecDepth 100000 in
set_option maxHeartbeats 4000000 in
theorem dwfind (A : Option Addr) (m c n g px pb pd pv b : Nat) (l : Int) (o : Nat → Int) (C : Nat → Int) (w : World) (hm : m ≤ 1000) (hC : ∀ j, j < m → 0 ≤ C j ∧ C j < n) (hA : ∀ j, j < m → ∃ q, A = some ⟨q, 0, none⟩ ∧ q < w.heap.size ∧ w.cell? ⟨q, j, none⟩ = some (.int .i64 (C j)))
 (h1 : ∀ w', Below w.heap.size w w' → w'.cell? ⟨px, 0, none⟩ = some (.int .i64 b)) (h2 : ∀ w', Below w.heap.size w w' → w'.cell? ⟨pb, 0, none⟩ = some (.int .i64 b)) (h3 : ∀ w', Below w.heap.size w w' → w'.cell? ⟨pd, 0, none⟩ = some (.slice (some ⟨g, 0, none⟩) n n)) (h4 : ∀ w', Below w.heap.size w w' → w'.cell? ⟨pv, 0, none⟩ = some (.int .i64 l)) (h5 : ∀ w', Below w.heap.size w w' → ∀ k, k < n → w'.cell? ⟨g, k, none⟩ = some (.int .i64 (o k)))
 (hex : ∃ j, j < m ∧ nxtB b o l (C j).toNat = true) :
 Calls Tryz.prog 138 #[.slice A m c, .func (.func 139) #[] #[.pointer (some ⟨px, 0, none⟩), .pointer (some ⟨pb, 0, none⟩), .pointer (some ⟨pd, 0, none⟩), .pointer (some ⟨pv, 0, none⟩)]] w fun e w' => (∃ j : Nat, j < m ∧ e = .returned (.int .i64 j) ∧ nxtB b o l (C j).toNat = true) ∧ Below w.heap.size w w' := by
 have HC := Lib.hid hC
 have HM := Lib.hid hm
 have HA := Lib.hid hA
 have HX := Lib.hid hex
 have KK : Hid (∀ w', Below w.heap.size w w' → ∀ k, k < n → Calls Tryz.prog 139 #[.int .i64 (k : Nat), .pointer (some ⟨px, 0, none⟩), .pointer (some ⟨pb, 0, none⟩), .pointer (some ⟨pd, 0, none⟩), .pointer (some ⟨pv, 0, none⟩)] w' fun e w'' => e = .returned (.bool (nxtB b o l k)) ∧ Below w'.heap.size w' w'') := fun w' hb k hk => dw1 k n g px pb pd pv b l o hk w' (h1 w' hb) (h2 w' hb) (h3 w' hb) (h4 w' hb) (h5 w' hb k hk)
 clear hm hC hA hex h1 h2 h3 h4 h5
 go_enter Tryz.func138, Tryz.ntmps138
 go_wp2_with fail
 go_loopw [8] (fun u wr => ∃ i : Nat, Hid (i ≤ m) ∧ u = .int .i64 i ∧ Hid (Below w.heap.size w wr) ∧ Hid (∀ j, j < i → nxtB b o l (C j).toNat = false)) (fun u _ => m - (RowKit.intOf u).toNat)
 case atStart => exact ⟨0, Nat.zero_le _, rfl, Below.refl _ _, fun j hj => absurd hj (Nat.not_lt_zero _)⟩
 case round =>
  obtain ⟨i, Hi, rfl, HW, HF⟩ := hrel
  by_cases hlt : i < m
  · have T0 : decide ((i : Int) < (m : Int)) = true := by simp <;> omega
    have T0' : decide (i < m) = true := decide_eq_true hlt
    obtain ⟨i', hi'⟩ : ∃ z, z = i + 1 := ⟨_, rfl⟩
    have x0 : IntKind.i64.wrap ((i : Int) + 1) = (i' : Int) := by have := HM.out; rw [IntKind.wrap_i64]; omega
    obtain ⟨q, hAq, hql, hqc⟩ := HA.out i hlt
    have hc := HC.out i hlt
    obtain ⟨kk, hkk⟩ : ∃ kk : Nat, C i = (kk : Int) := ⟨(C i).toNat, by omega⟩
    have hkn : kk < n := by omega
    rw [hkk] at hqc
    subst hAq
    have c0 := (HW.out.cell (p := ⟨q, i, none⟩) hql).trans hqc
    have k0 : (0 : Int) ≤ (i : Int) := by omega
    have k1 : (i : Int) < (m : Int) := by omega
    have HI' : Hid (i' ≤ m ∧ i' = i + 1) := ⟨by omega, hi'⟩
    have HMS : Hid (m - (RowKit.intOf (Value.int .i64 (i' : Int))).toNat < m - (RowKit.intOf (Value.int .i64 (i : Int))).toNat) := by show _ < _; simp [RowKit.intOf]; omega
    have HK2 := Lib.hid (KK.out wr HW.out kk hkn)
    have HNX : Hid (nxtB b o l (C i).toNat = nxtB b o l kk) := by show _ = _; rw [hkk]; simp
    have HIM := Lib.hid hlt
    clear hi' hlt hc hkk hkn hqc hql
    cases hr : nxtB b o l kk with
    | true =>
      rw [hr] at HK2 HNX
      clear hr
      go_wp2_with (first
       | (go_at_call 139
          with_reducible refine (HK2.out).mono ?_
          rintro e w1 ⟨rfl, hb1⟩
          have HW1 : Hid (Below w.heap.size w w1) := HW.out.trans (hb1.mono HW.out.size)
          clear hb1))
      go_ret
      exact ⟨⟨i, HIM.out, rfl, HNX.out⟩, HW1.out⟩
    | false =>
      rw [hr] at HK2 HNX
      clear hr
      go_wp2_with (first
       | (go_at_call 139
          with_reducible refine (HK2.out).mono ?_
          rintro e w1 ⟨rfl, hb1⟩
          have HW1 : Hid (Below w.heap.size w w1) := HW.out.trans (hb1.mono HW.out.size)
          clear hb1))
      go_roundw
      case rel =>
       refine ⟨i', HI'.out.1, rfl, HW1, fun j hj => ?_⟩
       by_cases e : j = i
       · rw [e]; exact HNX.out
       · exact HF.out j (by have := HI'.out.2; omega)
      case measure => exact HMS.out
  · exact absurd HX.out (by
        rintro ⟨j, hj, e⟩
        have := HF.out j (by omega)
        rw [this] at e; cases e)
theorem own_one {w : World} {B g : Nat} {z : Int} (hB : B ≤ g) (h : Blk w g 3 #[.int .i64 z]) : w.ownsRow B 3 1 (.slice (some ⟨g, 0, none⟩) 1 1) 1 (ic [z]) :=
 ⟨rfl, .inr ⟨g, 1, #[.int .i64 z], rfl, hB, h, Nat.le_refl _, by simp [maxLen], rfl, rfl⟩⟩
structure WkI (n : Nat) (b g S S1 S2 S3 : Nat) (o : Nat → Int) (w wr : World) (k v N : Nat) (u : Value) (L : List Int) : Prop where
 kn : k < n
 o1 : 1 ≤ o k
 ob : o k ≤ o b
 len : (N : Int) + o k ≤ o b + 1
 pos : 0 < N
 left : Blk wr v 3 #[.int .i64 (o k - 1)]
 lft : S3 ≤ v
 own : wr.ownsRow S3 3 1 u N (ic L)
 sep : u.ownBlock ≠ some v
 bd : Blk wr S 32 #[.slice (some ⟨g, 0, none⟩) n n]
 bb : Blk wr S1 3 #[.int .i64 b]
 bl : Blk wr S2 3 #[.int .i64 b]
 bel : Below w.heap.size w wr
theorem WkI.call {n b g S S1 S2 S3 k v N : Nat} {o : Nat → Int} {w wr w1 : World} {u : Value} {L : List Int} (h : WkI n b g S S1 S2 S3 o w wr k v N u L) (hb : Below wr.heap.size wr w1) : WkI n b g S S1 S2 S3 o w w1 k v N u L :=
 { kn := h.kn, o1 := h.o1, ob := h.ob, len := h.len, pos := h.pos, left := h.left.call hb, lft := h.lft, own := own_below h.own hb, sep := h.sep, bd := h.bd.call hb, bb := h.bb.call hb, bl := h.bl.call hb, bel := below_step h.bel hb }
set_option maxRecDepth 100000 in
set_option maxHeartbeats 8000000 in
theorem dwalk (a n m g b : Nat) (X Y o : Nat → Int) (w : World) (hn : n ≤ 300) (hm : m ≤ 1000) (hE : EdOK n X Y m) (hA : AfIn w a n (fun i => nx X Y m (i : Int))) (hD : DsB n X Y m b o) (hg : Blk w g 3 (wcs n o)) (hb : b < n) (ho : 1 ≤ o b) (h1000 : o b ≤ 1000) :
 Calls Tryz.prog 94 #[.slice (some ⟨a, 0, none⟩) n n, .slice (some ⟨g, 0, none⟩) n n, .int .i64 b, .int .i64 b, .int .i64 b] w fun e w' => (∃ q N c : Nat, 0 < N ∧ e = .returned (.slice (some ⟨q, 0, none⟩) N c)) ∧ Below w.heap.size w w' := by
 obtain ⟨i0, hi0, hz0, hz1, hz2⟩ := info_parts1 infoI
 have HI0 := Lib.hid hi0
 have HZ0 := Lib.hid hz0
 have HZ1 := Lib.hid hz1
 have HZ2 := Lib.hid hz2
 have HN := Lib.hid hn
 have HM := Lib.hid hm
 have HE := Lib.hid hE
 have HA := Lib.hid hA
 have HD := Lib.hid hD
 have HG := Lib.hid hg
 have HBN := Lib.hid hb
 have HO1 : Hid (1 ≤ o b ∧ o b ≤ 1000) := ⟨ho, h1000⟩
 have HGB : Hid (g < w.heap.size) := hg.lt
 have cgb := hg.cell b
 rw [wcs_at hb] at cgb
 have k0 : (0 : Int) ≤ (b : Int) := by omega
 have k1 : (b : Int) < (n : Int) := by omega
 obtain ⟨ov, hov⟩ : ∃ z, o b = z := ⟨_, rfl⟩
 rw [hov] at cgb
 have HOV := Lib.hid hov
 obtain ⟨lv, hlv⟩ : ∃ z, z = ov - 1 := ⟨_, rfl⟩
 have x0 : IntKind.i64.wrap (ov - 1) = lv := by rw [hlv, IntKind.wrap_i64]; omega
 have HLV : Hid (lv = o b - 1) := by show _ = _; rw [hov, hlv]
 clear hi0 hz0 hz1 hz2 hn hm hE hA hD hg hb ho h1000 hov hlv
 go_enter Tryz.func94, Tryz.ntmps94
 go_upto_region 2 with fail
 obtain ⟨S, hS⟩ : ∃ S, w.heap.size = S := ⟨_, rfl⟩
 have HF : Hid (Blk ((((w.alloc (Obj.cells #[.slice (some ⟨g, 0, none⟩) n n] 32)).alloc (Obj.cells #[.int .i64 b] 3)).alloc (Obj.cells #[.int .i64 b] 3)).alloc (Obj.cells #[.int .i64 b] 3)) w.heap.size 32 #[.slice (some ⟨g, 0, none⟩) n n]
  ∧ Blk ((((w.alloc (Obj.cells #[.slice (some ⟨g, 0, none⟩) n n] 32)).alloc (Obj.cells #[.int .i64 b] 3)).alloc (Obj.cells #[.int .i64 b] 3)).alloc (Obj.cells #[.int .i64 b] 3)) (w.heap.size + 1) 3 #[.int .i64 b]
  ∧ Blk ((((w.alloc (Obj.cells #[.slice (some ⟨g, 0, none⟩) n n] 32)).alloc (Obj.cells #[.int .i64 b] 3)).alloc (Obj.cells #[.int .i64 b] 3)).alloc (Obj.cells #[.int .i64 b] 3)) (w.heap.size + 1 + 1) 3 #[.int .i64 b]
  ∧ Blk ((((w.alloc (Obj.cells #[.slice (some ⟨g, 0, none⟩) n n] 32)).alloc (Obj.cells #[.int .i64 b] 3)).alloc (Obj.cells #[.int .i64 b] 3)).alloc (Obj.cells #[.int .i64 b] 3)) (w.heap.size + 1 + 1 + 1) 3 #[.int .i64 b]
  ∧ Below w.heap.size w ((((w.alloc (Obj.cells #[.slice (some ⟨g, 0, none⟩) n n] 32)).alloc (Obj.cells #[.int .i64 b] 3)).alloc (Obj.cells #[.int .i64 b] 3)).alloc (Obj.cells #[.int .i64 b] 3))) := by
  have e1 : (w.alloc (Obj.cells #[.slice (some ⟨g, 0, none⟩) n n] 32)).heap.size = w.heap.size + 1 := World.size_alloc _ _
  have e2 : ((w.alloc (Obj.cells #[.slice (some ⟨g, 0, none⟩) n n] 32)).alloc (Obj.cells #[.int .i64 b] 3)).heap.size = w.heap.size + 1 + 1 := by rw [World.size_alloc, e1]
  have e3 : (((w.alloc (Obj.cells #[.slice (some ⟨g, 0, none⟩) n n] 32)).alloc (Obj.cells #[.int .i64 b] 3)).alloc (Obj.cells #[.int .i64 b] 3)).heap.size = w.heap.size + 1 + 1 + 1 := by rw [World.size_alloc, e2]
  refine ⟨(((Blk.new w _ _).alloc _).alloc _).alloc _, ?_, ?_, ?_, ?_⟩
  · have := Blk.new (w.alloc (Obj.cells #[.slice (some ⟨g, 0, none⟩) n n] 32)) 3 #[.int .i64 (b : Int)]
    rw [e1] at this
    exact (this.alloc _).alloc _
  · have := Blk.new ((w.alloc (Obj.cells #[.slice (some ⟨g, 0, none⟩) n n] 32)).alloc (Obj.cells #[.int .i64 b] 3)) 3 #[.int .i64 (b : Int)]
    rw [e2] at this
    exact this.alloc _
  · have := Blk.new (((w.alloc (Obj.cells #[.slice (some ⟨g, 0, none⟩) n n] 32)).alloc (Obj.cells #[.int .i64 b] 3)).alloc (Obj.cells #[.int .i64 b] 3)) 3 #[.int .i64 (b : Int)]
    rw [e3] at this
    exact this
  · exact ((((Below.refl _ w).alloc (Nat.le_refl _) _).alloc (by rw [e1]; omega) _).alloc (by rw [e2]; omega) _).alloc (by rw [e3]; omega) _
 clear hS
 generalize World.alloc (World.alloc (World.alloc (World.alloc w _) _) _) _ = w4 at HF ⊢
 obtain ⟨S3, hS3⟩ : ∃ z, w.heap.size + 1 + 1 + 1 = z := ⟨_, rfl⟩
 obtain ⟨S2, hS2⟩ : ∃ z, w.heap.size + 1 + 1 = z := ⟨_, rfl⟩
 obtain ⟨S1, hS1⟩ : ∃ z, w.heap.size + 1 = z := ⟨_, rfl⟩
 rw [hS3, hS2, hS1] at HF
 rw [hS3, hS2, hS1]
 have HS : Hid (S1 = w.heap.size + 1 ∧ S2 = w.heap.size + 2 ∧ S3 = w.heap.size + 3) := ⟨hS1.symm, hS2.symm, hS3.symm⟩
 have c1 : w4.cell? ⟨w.heap.size, 0, none⟩ = some (.slice (some ⟨g, 0, none⟩) n n) := HF.out.1.cell 0
 have c2 : w4.cell? ⟨g, b, none⟩ = some (.int .i64 ov) := (HF.out.2.2.2.2.cell (p := ⟨g, b, none⟩) HGB.out).trans cgb
 clear hS1 hS2 hS3 cgb
 go_wp2_with fail
 have HW0 : Hid (WkI n b g w.heap.size S1 S2 S3 o w (w4.alloc (Obj.cells #[.int .i64 lv] 3)) b w4.heap.size 1 (.slice (some ⟨S3, 0, none⟩) 1 1) [(b : Int)]) := by
  obtain ⟨f1, f2, f3, f4, f5⟩ := HF.out
  have hlt := f4.lt
  refine { kn := HBN.out, o1 := HO1.out.1, ob := Int.le_refl _, len := by omega, pos := by omega, left := ?_, lft := by omega, own := (own_one (Nat.le_refl _) f4).alloc _, sep := by simp [Value.ownBlock]; omega, bd := f1.alloc _, bb := f2.alloc _, bl := f3.alloc _, bel := f5.alloc f5.size _ }
  rw [← HLV.out]
  exact Blk.new _ _ _
 clear c1 c2 HF
 generalize w4.alloc (Obj.cells #[.int .i64 lv] 3) = w5 at HW0 ⊢
 generalize w4.heap.size = v0 at HW0 ⊢
 go_loopg [2, 11, 12] ((o b).toNat) (fun gm x u p wr => ∃ (k v N : Nat) (L : List Int), x = .int .i64 k ∧ p = .pointer (some ⟨v, 0, none⟩) ∧ Hid (WkI n b g w.heap.size S1 S2 S3 o w wr k v N u L) ∧ Hid ((o k).toNat ≤ gm))
 case atStart => exact ⟨b, v0, 1, [(b : Int)], rfl, rfl, HW0, Nat.le_refl _⟩
 case round =>
  clear HW0
  obtain ⟨k, v, N, L, rfl, rfl, HI, HGM⟩ := hrel
  obtain ⟨Ao, co, h8⟩ := nr_form HI.out.own
  subst h8
  obtain ⟨l, hl⟩ : ∃ l, o k - 1 = l := ⟨_, rfl⟩
  have HL := Lib.hid hl
  have cl : wr.cell? ⟨v, 0, none⟩ = some (.int .i64 l) := by rw [← hl]; exact HI.out.left.cell 0
  by_cases h0 : 0 < l
  · have T0 : decide ((0 : Int) < l) = true := decide_eq_true h0
    have hkn := HI.out.kn
    obtain ⟨Ai, ci, hca, hlc, hrow⟩ := (HA.out.below HI.out.bel).2 k hkn
    dsimp only at hca hlc hrow
    obtain ⟨K, hK⟩ : ∃ K, (nx X Y m (k : Int)).length = K := ⟨_, rfl⟩
    rw [hK] at hca hlc hrow
    have hKM : K ≤ 1000 := by have := nx_len X Y m (k : Int); have := HM.out; omega
    obtain ⟨j0, hj1, hj2, hj3, hj4, hj5⟩ := HD.out.step hkn (by omega) HI.out.ob
    have hmem : (j0 : Int) ∈ nx X Y m (k : Int) := mem_nx.2 hj4
    have hex : ∃ j, j < K ∧ nxtB b o l ((nx X Y m (k : Int)).getD j 0).toNat = true := by
        obtain ⟨j, hj, e⟩ := List.mem_iff_getElem.1 hmem
        refine ⟨j, by rw [← hK]; exact hj, ?_⟩
        have : (nx X Y m (k : Int)).getD j 0 = (j0 : Int) := by simp [List.getD, hj, e]
        rw [this]
        simp [nxtB, hj2, hj3, hj5, hl]
    have hCb : ∀ j, j < K → 0 ≤ (nx X Y m (k : Int)).getD j 0 ∧ (nx X Y m (k : Int)).getD j 0 < n := by
        intro j hj
        have hj' : j < (nx X Y m (k : Int)).length := by rw [hK]; exact hj
        have hm' : (nx X Y m (k : Int)).getD j 0 ∈ nx X Y m (k : Int) := by simp [List.getD, hj']
        obtain ⟨e, e1, e2, e3⟩ := mem_nx.1 hm'
        rw [← e3]
        exact HE.out.y e e1
    have hAc : ∀ j, j < K → ∃ q, Ai = some ⟨q, 0, none⟩ ∧ q < wr.heap.size ∧ wr.cell? ⟨q, j, none⟩ = some (.int .i64 ((nx X Y m (k : Int)).getD j 0)) := by
        intro j hj
        rcases hrow with h | ⟨q, e1, e2, e3⟩
        · rw [h] at hK; simp at hK; omega
        · exact ⟨q, e1, e2, e3 j hj⟩
    have SF := Lib.hid (dwfind Ai K ci n g S2 S1 w.heap.size v b l o (fun j => (nx X Y m (k : Int)).getD j 0) wr hKM hCb hAc (fun w' hb => (hb.cell (p := ⟨S2, 0, none⟩) HI.out.bl.lt).trans (HI.out.bl.cell 0)) (fun w' hb => (hb.cell (p := ⟨S1, 0, none⟩) HI.out.bb.lt).trans (HI.out.bb.cell 0)) (fun w' hb => (hb.cell (p := ⟨w.heap.size, 0, none⟩) HI.out.bd.lt).trans (HI.out.bd.cell 0)) (fun w' hb => (hb.cell (p := ⟨v, 0, none⟩) HI.out.left.lt).trans cl) (fun w' hb q hq => by
        have h5 := (below_step HI.out.bel hb).cell (p := ⟨g, q, none⟩) HGB.out
        rw [h5, HG.out.cell q, wcs_at hq]) hex)
    have HAC := Lib.hid hAc
    have HCB := Lib.hid hCb
    have HAW : Hid (a < wr.heap.size) := Nat.lt_of_lt_of_le HA.out.1 HI.out.bel.size
    have HNL : Hid (N ≤ 2000) := by show N ≤ 2000; have := HI.out.len; have := HI.out.o1; have := HO1.out; omega
    have j0' : (0 : Int) ≤ (k : Int) := by omega
    have j1' : (k : Int) < (n : Int) := by omega
    obtain ⟨l', hl'⟩ : ∃ z, z = l - 1 := ⟨_, rfl⟩
    have x1 : IntKind.i64.wrap (l - 1) = l' := by have := HI.out.ob; have := HO1.out; rw [hl', IntKind.wrap_i64]; omega
    have HLL : Hid (l' = l - 1 ∧ 0 < l) := ⟨hl', h0⟩
    clear hlc hrow hK hKM hj1 hj2 hj3 hj4 hj5 hmem hex hCb hAc hkn h0 hl hl'
    go_upto_region 8 with (first
        | (go_at_call 138
           with_reducible refine SF.out.mono ?_
           rintro e w1 ⟨⟨j, hjK, rfl, hjn⟩, hb1⟩
           have HI1 := Lib.hid (HI.out.call hb1)
           have c1 : w1.cell? ⟨a, k, none⟩ = some (.slice Ai K ci) := (hb1.cell (p := ⟨a, k, none⟩) HAW.out).trans hca
           obtain ⟨q, hAq, hql, hqc⟩ := HAC.out j hjK
           subst hAq
           have hcb := HCB.out j hjK
           obtain ⟨k', hk'⟩ : ∃ k' : Nat, (nx X Y m (k : Int)).getD j 0 = (k' : Int) := ⟨((nx X Y m (k : Int)).getD j 0).toNat, by omega⟩
           have c2 : w1.cell? ⟨q, j, none⟩ = some (.int .i64 (k' : Int)) := by rw [← hk']; exact (hb1.cell (p := ⟨q, j, none⟩) hql).trans hqc
           have hkn' : k' < n := by omega
           have hnx : nxtB b o l k' = true := by
            have := hjn
            try dsimp only at this
            rw [hk'] at this
            simpa using this
           have HKN := Lib.hid hkn'
           have HNX := Lib.hid hnx
           have q0 : (0 : Int) ≤ (j : Int) := by omega
           have q1 : (j : Int) < (K : Int) := by omega
           have HBB1 : Hid (S3 ≤ w1.heap.size) := by show _ ≤ _; have := HI1.out.lft; have := HI1.out.left.lt; omega
           clear hb1 hjn hcb hk' hkn' hnx hql hqc hca SF HAC HCB)
        | (at_builtin; refine wpList_append_own_at _ ?q2_1 (.tmp 38) (.tmp 40) 32 ?q2_2 S3 3 i0 (.int .i64 0) 1 8 Tryz.underlying32 HI0.out HZ0.out HZ1.out HZ2.out ?q2_3 ?q2_4 (.slice Ao N co) N (ic L) ?q2_5 (HI1.out.own.alloc _) ⟨w1.heap.size, 0, none⟩ 1 1 [.int .i64 (k' : Int)] ?q2_7 (rfl) (World.news_of_block (cs := #[.int .i64 (k' : Int)]) (t := 3) (fr := (0, 0)) (heap_alloc_new w1 _)) (by simp [Value.oneCell']) (h63_n HNL.out) (hby_n HNL.out) (base_alloc1 HBB1.out _) ?q2_14
           case q2_1 => exact rfl
           case q2_2 => exact rfl
           case q2_3 => exact rfl
           case q2_4 => decide
           case q2_5 => exact rfl
           case q2_7 => exact rfl
           intro u2 w7 hown2 hgrow2 hnil2 hat2
           have HO7 := Lib.hid hown2
           have hbase : ∀ x, (Value.slice Ao N co).ownBlock = some x → S3 ≤ x := fun x e => (HI1.out.own.lt _ e).1
           have HV7 : Hid (Blk w7 v 3 #[.int .i64 l]) := by
            have h1 := HI1.out.left
            rw [HL.out] at h1
            exact (h1.alloc _).grown hgrow2 (fun e => HI1.out.sep e.symm)
           have HF7 : Hid (Blk w7 w.heap.size 32 #[.slice (some ⟨g, 0, none⟩) n n] ∧ Blk w7 S1 3 #[.int .i64 b] ∧ Blk w7 S2 3 #[.int .i64 b] ∧ Below w.heap.size w w7) :=
            ⟨(HI1.out.bd.alloc _).grown hgrow2 (fun e => by have := hbase _ e.symm; have := HS.out; omega), (HI1.out.bb.alloc _).grown hgrow2 (fun e => by have := hbase _ e.symm; have := HS.out; omega), (HI1.out.bl.alloc _).grown hgrow2 (fun e => by have := hbase _ e.symm; have := HS.out; omega), below_grown (HI1.out.bel.alloc HI1.out.bel.size _) (by have := HI1.out.bel.size; simp; omega) hgrow2 (fun g' e => by have := hbase _ e; have := HS.out; omega)⟩
           have HS7 : Hid (S3 ≤ w7.heap.size) := by show _ ≤ _; have := hgrow2.size; have := HBB1.out; simp at *; omega
           clear hown2 hgrow2 hnil2 hat2 hbase c1 c2))
    have c7 := HV7.out.cell 0
    simp only [List.getElem?_toArray, List.getElem?_cons_zero] at c7
    go_wp2_with fail
    have hnx := HNX.out
    simp only [nxtB, Bool.and_eq_true, decide_eq_true_eq] at hnx
    have HN3 : Hid (o k' = l ∧ o k - 1 = l) := ⟨hnx.2.2, HL.out⟩
    have HGM2 : Hid ((o k').toNat < gk) := by show _ < _; have := HGM.out; have := HN3.out; have := HI1.out.o1; omega
    have HI8 : Hid (WkI n b g w.heap.size S1 S2 S3 o w (w7.alloc (Obj.cells #[.int .i64 l'] 3)) k' w7.heap.size (N + 1) u2 (L ++ [(k' : Int)])) := by
        obtain ⟨f1, f2, f3, f4⟩ := HF7.out
        have h1 := HN3.out
        have h2 := HI1.out.ob
        have h3 := HI1.out.len
        have h4 := HLL.out
        refine { kn := HKN.out, o1 := by omega, ob := by omega, len := by omega, pos := by omega, left := ?_, lft := HS7.out, own := ?_, sep := ?_, bd := f1.alloc _, bb := f2.alloc _, bl := f3.alloc _, bel := f4.alloc f4.size _ }
        · rw [h1.1, ← h4.1]; exact Blk.new _ _ _
        · rw [ic_append]; exact HO7.out.alloc _
        · intro e
          have := HO7.out.lt _ e
          omega
    clear hnx
    go_roundg ((o k').toNat)
    case measure => exact HGM2.out
    case rel => exact ⟨k', w7.heap.size, N + 1, _, rfl, rfl, HI8, Nat.le_refl _⟩
  · have T0 : decide ((0 : Int) < l) = false := decide_eq_false h0
    clear h0 hl
    go_wp2_with fail
    go_ret
    obtain ⟨q, cap, hv, _, _⟩ := HI.out.own.form HI.out.pos
    exact ⟨⟨q, N, cap, HI.out.pos, by rw [hv]; rfl⟩, HI.out.bel⟩
end Go.Proofs.YtghefgifhebniaaGreatDoor
namespace Go.Proofs.YtghefgifhebniaaGreatDoor
open Go.RowKit
set_option linter.unusedVariables false
set_option linter.unusedSimpArgs false
theorem ordO_P (n : Nat) (X Y : Nat → Int) (m : Nat) : OrdP n X Y m (ordO n X Y m) := (ordL_spec n [] (OrdP.nil n X Y m)).1
theorem OrdP.all {n : Nat} {X Y : Nat → Int} {m : Nat} {L : List Int} (h : OrdP n X Y m L) (hl : ¬ L.length < n) {v : Nat} (hv : v < n) : (v : Int) ∈ L := by
 refine Classical.byContradiction fun hn => ?_
 have h1 : ((v :: L.map Int.toNat)).Nodup := by
  rw [List.nodup_cons]
  refine ⟨fun hm => ?_, ?_⟩
  · obtain ⟨z, hz, e⟩ := List.mem_map.1 hm
    have := h.bd z hz
    have e2 : z = (v : Int) := by omega
    rw [e2] at hz
    exact hn hz
  · rw [List.Nodup, List.pairwise_map]
    refine h.nd.imp_of_mem (fun ha hb hab e => hab ?_)
    have := (h.bd _ ha).1
    have := (h.bd _ hb).1
    omega
 have h2 : (v :: L.map Int.toNat) ⊆ List.range n := by
  intro x hx
  rcases List.mem_cons.1 hx with rfl | hx
  · exact List.mem_range.2 hv
  · obtain ⟨z, hz, rfl⟩ := List.mem_map.1 hx
    have := h.bd z hz
    exact List.mem_range.2 (by omega)
 have := nd_sub h1 h2
 simp at this
 omega
theorem idx_app {A B : List Int} {z : Int} (hA : z ∉ A) : (A ++ z :: B).idxOf z = A.length := by
 rw [List.idxOf_append]
 simp [hA]
theorem OrdP.lt {n : Nat} {X Y : Nat → Int} {m : Nat} {L : List Int} (h : OrdP n X Y m L) {x y : Int} (hy : y ∈ L) (hn : nextP X Y m x y) : x ∈ L ∧ L.idxOf x < L.idxOf y := by
 obtain ⟨k, hk, e1, e2⟩ := hn
 obtain ⟨A, B, rfl⟩ := List.append_of_mem hy
 have hx := h.pre A y B rfl k hk e2
 rw [e1] at hx
 have hyA : y ∉ A := fun hm => by
  have := h.nd
  rw [List.nodup_append] at this
  exact this.2.2 y hm y (by simp) rfl
 refine ⟨List.mem_append.2 (.inl hx), ?_⟩
 rw [idx_app hyA, List.idxOf_append, if_pos hx]
 exact List.idxOf_lt_length_of_mem hx
theorem OrdP.noBk {n : Nat} {X Y : Nat → Int} {m : Nat} {L : List Int} (h : OrdP n X Y m L) (hl : ¬ L.length < n) {b k : Nat} (hb : b < n) (hB : Bk X Y m b k) : (k : Int) ∈ L ∧ L.idxOf (k : Int) < L.idxOf (b : Int) := by
 induction hB with
 | one _ hn => exact h.lt (h.all hl hb) hn
 | suc _ hn _ ih =>
   obtain ⟨h1, h2⟩ := h.lt ih.1 hn
   exact ⟨h1, by omega⟩
theorem OrdP.noWay {n : Nat} {X Y : Nat → Int} {m : Nat} {L : List Int} (h : OrdP n X Y m L) (hl : ¬ L.length < n) (hE : EdOK n X Y m) {i : Nat} (hi : i < n) : ¬ WayP X Y m (i : Int) (i : Int) := by
 intro hw
 have key : ∀ z, WayP X Y m (i : Int) z → z ∈ L ∧ L.idxOf (i : Int) < L.idxOf z := by
  intro z hz
  refine Rch.closed (P := fun z => z ∈ L ∧ L.idxOf (i : Int) < L.idxOf z) (fun z hz => ?_) (fun k hk hp => ?_) hz
  · obtain ⟨k, hk, e1, e2⟩ := hz
    have hb := hE.y k hk
    have hm : z ∈ L := by
        have := h.all hl (v := z.toNat) (by omega)
        rwa [Int.toNat_of_nonneg (by omega)] at this
    exact ⟨hm, (h.lt hm ⟨k, hk, e1, e2⟩).2⟩
  · have hb := hE.y k hk
    have hm : Y k ∈ L := by
        have := h.all hl (v := (Y k).toNat) (by omega)
        rwa [Int.toNat_of_nonneg (by omega)] at this
    have := (h.lt hm ⟨k, hk, rfl, rfl⟩).2
    exact ⟨hm, by omega⟩
 exact Nat.lt_irrefl _ (key _ hw).2
theorem arg_min (f : Nat → Nat) : ∀ (a l : Nat), ∃ t, a ≤ t ∧ t ≤ a + l ∧ ∀ s, a ≤ s → s ≤ a + l → f t ≤ f s := by
 intro a l
 induction l with
 | zero => exact ⟨a, Nat.le_refl _, Nat.le_refl _, fun s h1 h2 => by rw [show s = a by omega]; exact Nat.le_refl _⟩
 | succ l ih =>
   obtain ⟨t, h1, h2, h3⟩ := ih
   by_cases e : f t ≤ f (a + (l + 1))
   · refine ⟨t, h1, by omega, fun s g1 g2 => ?_⟩
     by_cases es : s = a + (l + 1)
     · rw [es]; exact e
     · exact h3 s g1 (by omega)
   · refine ⟨a + (l + 1), by omega, Nat.le_refl _, fun s g1 g2 => ?_⟩
     by_cases es : s = a + (l + 1)
     · rw [es]; exact Nat.le_refl _
     · have := h3 s g1 (by omega); omega
theorem two_alike (f : Nat → Nat) (n : Nat) (hf : ∀ t, f t < n) : ∃ i j, i < j ∧ f i = f j := by
 refine Classical.byContradiction fun hn => ?_
 have h1 : ((List.range (n + 1)).map f).Nodup := by
  rw [List.Nodup, List.pairwise_map]
  refine List.pairwise_lt_range.imp fun {a b} hab e => hn ⟨a, b, hab, e⟩
 have h2 : ((List.range (n + 1)).map f) ⊆ List.range n := by
  intro x hx
  obtain ⟨t, _, rfl⟩ := List.mem_map.1 hx
  exact List.mem_range.2 (hf t)
 have := nd_sub h1 h2
 simp at this
 omega
theorem loop_of {n : Nat} {X Y : Nat → Int} {m : Nat} (f : Nat → Nat) (hf : ∀ t, f t < n) (hs : ∀ t, nextP X Y m (f (t + 1) : Int) (f t : Int)) : ∃ b, b < n ∧ Bk X Y m b b := by
 obtain ⟨i, j, hij, e⟩ := two_alike f n hf
 obtain ⟨t, h1, h2, h3⟩ := arg_min f i (j - i)
 have h3' : ∀ s, i ≤ s → s ≤ j → f t ≤ f s := fun s g1 g2 => h3 s g1 (by omega)
 -- one takes the least one ahead of j
 obtain ⟨t, h1, h2, h3⟩ : ∃ t, i ≤ t ∧ t < j ∧ ∀ s, i ≤ s → s ≤ j → f t ≤ f s := by
  by_cases et : t = j
  · exact ⟨i, Nat.le_refl _, hij, fun s g1 g2 => by rw [e, ← et]; exact h3' s g1 g2⟩
  · exact ⟨t, h1, by omega, h3'⟩
 refine ⟨f t, hf t, ?_⟩
 have up : ∀ l, t + 1 + l ≤ j → Bk X Y m (f t) (f (t + 1 + l)) := by
  intro l
  induction l with
  | zero => exact fun hl => .one (h3 _ (by omega) hl) (hs t)
  | succ l ih => exact fun hl => .suc (h3 _ (by omega) hl) (hs (t + 1 + l)) (ih (by omega))
 have hj := up (j - (t + 1)) (by omega)
 rw [show t + 1 + (j - (t + 1)) = j by omega, ← e] at hj
 have dn : ∀ l, i + l ≤ t → Bk X Y m (f t) (f (i + l)) := by
  intro l
  induction l with
  | zero => exact fun _ => hj
  | succ l ih => exact fun hl => .suc (h3 _ (by omega) (by omega)) (hs (i + l)) (ih (by omega))
 have := dn (t - i) (by omega)
 rwa [show i + (t - i) = t by omega] at this
theorem ordO_loop {n : Nat} {X Y : Nat → Int} {m : Nat} (hE : EdOK n X Y m) (h : (ordO n X Y m).length < n) : ∃ b, b < n ∧ Bk X Y m b b := by
 have hp := ordL_spec n [] (OrdP.nil n X Y m)
 have hnone := hp.2 (by simp)
 change pick n X Y m (ordO n X Y m) = none at hnone
 have hP := ordO_P n X Y m
 generalize ordO n X Y m = L at h hnone hP
 -- a node that is not in the order
 have h0 : ∃ v, v < n ∧ (v : Int) ∉ L := by
  refine Classical.byContradiction fun hn => ?_
  have hsub : List.range n ⊆ L.map Int.toNat := fun v hv => by
   have hv' := List.mem_range.1 hv
   have : (v : Int) ∈ L := Classical.byContradiction fun g => hn ⟨v, hv', g⟩
   exact List.mem_map.2 ⟨_, this, by simp⟩
  have := nd_sub List.nodup_range hsub
  simp at this
  omega
 have hstep : ∀ x : { v : Nat // v < n ∧ (v : Int) ∉ L }, ∃ y : { v : Nat // v < n ∧ (v : Int) ∉ L }, nextP X Y m (y.1 : Int) (x.1 : Int) := by
  rintro ⟨v, hv, hvL⟩
  refine Classical.byContradiction fun hn => ?_
  have hr := pick_none hnone v hv
  have : rdyB X Y m L v = true := rdyB_iff.2 ⟨hvL, fun k hk hy => Classical.byContradiction fun hx => hn ?_⟩
  · rw [this] at hr; cases hr
  · have hb := hE.x k hk
    exact ⟨⟨(X k).toNat, by omega, by rwa [Int.toNat_of_nonneg hb.1]⟩, k, hk, by simp [Int.toNat_of_nonneg hb.1], hy⟩
 obtain ⟨v0, hv0⟩ := h0
 let nxt := fun x => Classical.choose (hstep x)
 have hnx : ∀ x, nextP X Y m ((nxt x).1 : Int) (x.1 : Int) := fun x => Classical.choose_spec (hstep x)
 let g : Nat → { v : Nat // v < n ∧ (v : Int) ∉ L } := fun t => Nat.rec ⟨v0, hv0⟩ (fun _ x => nxt x) t
 exact loop_of (fun t => (g t).1) (fun t => (g t).2.1) (fun t => hnx (g t))
theorem ordO_iff {n : Nat} {X Y : Nat → Int} {m : Nat} (hE : EdOK n X Y m) : (ordO n X Y m).length < n ↔ ∃ b, b < n ∧ Bk X Y m b b := by
 refine ⟨ordO_loop hE, fun ⟨b, hb, hB⟩ => Classical.byContradiction fun hl => ?_⟩
 exact Nat.lt_irrefl _ ((ordO_P n X Y m).noBk hl hb hB).2
end Go.Proofs.YtghefgifhebniaaGreatDoor
namespace Go.Proofs.YtghefgifhebniaaGreatDoor
open Go.RowKit
set_option linter.unusedVariables false
set_option linter.unusedSimpArgs false
theorem eql_nil0 (w : World) : (binOp .eql 32 (.slice none 0 0) (.slice none 0 0)).run Tryz.prog w = .ok (.bool true) w := run_eql_slice_nil w _ _ none 0 0 Tryz.underlying32
theorem eql_nil1 (a : Addr) (l c : Nat) (w : World) : (binOp .eql 32 (.slice (some a) l c) (.slice none 0 0)).run Tryz.prog w = .ok (.bool false) w := run_eql_slice_nil w _ _ (some a) l c Tryz.underlying32
def BestI (X Y : Nat → Int) (m i : Nat) (u : Value) : Prop :=
 (u = .slice none 0 0 ∧ ∀ j, j < i → ¬ Bk X Y m j j) ∨ ((∃ q N c : Nat, 0 < N ∧ u = .slice (some ⟨q, 0, none⟩) N c) ∧ ∃ j, j < i ∧ Bk X Y m j j)
theorem BestI.skip {X Y : Nat → Int} {m i i' : Nat} {u : Value} (h : BestI X Y m i u) (hb : ¬ Bk X Y m i i) (hi : i' = i + 1) : BestI X Y m i' u := by
 rcases h with ⟨hu, hno⟩ | ⟨hu, j, hj, hB⟩
 · refine .inl ⟨hu, fun j hj => ?_⟩
   by_cases e : j = i
   · rw [e]; exact hb
   · exact hno j (by omega)
 · exact .inr ⟨hu, j, by omega, hB⟩
set_option maxRecDepth 100000 in
set_option maxHeartbeats 8000000 in
theorem dLoop (A : Option Addr) (n m c : Nat) (X Y : Nat → Int) (w : World) (hn : n ≤ 300) (hm : m ≤ 1000) (hE : EdOK n X Y m) (ht : TabIn w A m X Y) :
 Calls Tryz.prog 51 #[.int .i64 n, .slice A m c] w fun e w' => (∃ u, e = .returned (.tuple #[u, .int .i64 (if (ordO n X Y m).length < n then 0 else 12)])) ∧ Below w.heap.size w w' := by
 have HN := Lib.hid hn
 have HM := Lib.hid hm
 have HE := Lib.hid hE
 have HT := Lib.hid ht
 have S1 := Lib.hid (dg_valid A n m c X Y w hn hm hE ht)
 have S2 : Hid (∀ w', Below w.heap.size w w' → Calls Tryz.prog 92 #[.int .i64 n, .slice A m c] w' (NextPost n X Y m w')) := fun w' h => dnext A n m c X Y w' hn hm hE (ht.below (Nat.le_refl _) h)
 have S3 : Hid (∀ w' i, Below w.heap.size w w' → i < n → Calls Tryz.prog 93 #[.int .i64 n, .slice A m c, .int .i64 (i : Nat), .int .i64 (i : Nat), .bool true] w' (DstPost n X Y m i w')) := fun w' i h hi => ddist A n m c i X Y w' hn hm hi hE (ht.below (Nat.le_refl _) h)
 obtain ⟨r, hr⟩ : ∃ r : Int, (if (ordO n X Y m).length < n then (0 : Int) else 12) = r := ⟨_, rfl⟩
 rw [hr]
 have HRR := Lib.hid hr
 clear hn hm hE ht hr
 go_enter Tryz.func51, Tryz.ntmps51
 go_wp2_with (first
  | (go_at_call 91
     with_reducible refine S1.out.mono ?_
     rintro e w1 ⟨rfl, hb1⟩
     have HB1 := Lib.hid hb1
     clear hb1)
  | (go_at_call 92
     with_reducible refine (S2.out w1 HB1.out).mono ?_
     rintro e w2 ⟨a, rfl, hbw, ha2, hb2⟩
     have HA := Lib.hid ha2
     have HB2 := Lib.hid (below_step HB1.out hb2)
     clear hbw ha2 hb2))
 clear S1 S2 HB1
 obtain ⟨w0, hw0⟩ : ∃ w0 : World, w0 = w2 := ⟨_, rfl⟩
 go_loopw [7, 18] (fun u x wr => ∃ i : Nat, x = .int .i64 i ∧ Hid (i ≤ n) ∧ Hid (BestI X Y m i u) ∧ Hid (Below w2.heap.size w2 wr)) (fun _ x _ => n - (RowKit.intOf x).toNat)
 case atStart => exact ⟨0, rfl, Nat.zero_le _, .inl ⟨rfl, fun j hj => absurd hj (Nat.not_lt_zero _)⟩, Below.refl _ _⟩
 case round =>
  obtain ⟨i, rfl, Hi, HU, HW⟩ := hrel
  by_cases hlt : i < n
  · have T0 : decide ((i : Int) < (n : Int)) = true := by simp <;> omega
    have T0' : decide (i < n) = true := decide_eq_true hlt
    obtain ⟨i', hi'⟩ : ∃ z, z = i + 1 := ⟨_, rfl⟩
    have x0 : IntKind.i64.wrap ((i : Int) + 1) = (i' : Int) := by have := HN.out; rw [IntKind.wrap_i64]; omega
    have HI' : Hid (i' ≤ n ∧ i' = i + 1) := ⟨by omega, hi'⟩
    have HMS : Hid (n - (RowKit.intOf (Value.int .i64 (i' : Int))).toNat < n - (RowKit.intOf (Value.int .i64 (i : Int))).toNat) := by show _ < _; simp [RowKit.intOf]; omega
    have k0 : (0 : Int) ≤ (i : Int) := by omega
    have k1 : (i : Int) < (n : Int) := by omega
    have S4 := Lib.hid (S3.out wr i (HB2.out.trans (HW.out.mono HB2.out.size)) hlt)
    have HIN := Lib.hid hlt
    clear hi' hlt hw0
    go_upto_region 9 with (first
        | (go_at_call 93
           with_reducible refine S4.out.mono ?_
           rintro e w3 ⟨g, o, rfl, hgl, hblk, hdst, hup, hb3⟩
           have HBK := Lib.hid hblk
           have HDS := Lib.hid hdst
           have HUP := Lib.hid hup
           have HW3 := Lib.hid (below_step HW.out hb3)
           clear hgl hblk hdst hup hb3))
    have cg := HBK.out.cell i
    rw [wcs_at HIN.out] at cg
    obtain ⟨ov, hov⟩ : ∃ z, o i = z := ⟨_, rfl⟩
    rw [hov] at cg
    have hiff := HDS.out.iff HE.out HIN.out HIN.out
    rw [hov] at hiff
    have HIF := Lib.hid hiff
    have HOV := Lib.hid hov
    clear S4 hov hiff
    by_cases hp : 0 < ov
    · have T1 : decide ((0 : Int) < ov) = true := decide_eq_true hp
      have HBI : Hid (Bk X Y m i i) := HIF.out.1 (by omega)
      have S5 := Lib.hid (dwalk a n m g i X Y o w3 HN.out HM.out HE.out (HA.out.below HW3.out) HDS.out.toDsB HBK.out HIN.out (by rw [HOV.out]; omega) (HUP.out i HIN.out))
      clear hp
      rcases HU.out with ⟨hu, hno⟩ | ⟨⟨q, N, cc, hN, hu⟩, hex⟩
      · subst hu
        have q0 := eql_nil0 w3
        clear hno
        go_wp2_with (first
         | (go_at_call 94
            with_reducible refine S5.out.mono ?_
            rintro e w4 ⟨⟨q, N, cc, hN, rfl⟩, hb4⟩
            have HW4 := Lib.hid (below_step HW3.out hb4)
            have HN4 := Lib.hid hN
            clear hb4 hN))
        go_roundw
        case rel => exact ⟨i', rfl, HI'.out.1, .inr ⟨⟨q, N, cc, HN4.out, rfl⟩, i, by have := HI'.out.2; omega, HBI.out⟩, HW4⟩
        case measure => exact HMS.out
      · subst hu
        have HN5 := Lib.hid hN
        have q0 := eql_nil1 ⟨q, 0, none⟩ N cc w3
        clear hex hN
        by_cases hl : ov < (N : Int)
        · have T2 : decide (ov < (N : Int)) = true := decide_eq_true hl
          clear hl
          go_wp2_with (first
            | (go_at_call 94
               with_reducible refine S5.out.mono ?_
               rintro e w4 ⟨⟨q, N, cc, hN, rfl⟩, hb4⟩
               have HW4 := Lib.hid (below_step HW3.out hb4)
               have HN4 := Lib.hid hN
               clear hb4 hN))
          go_roundw
          case rel => exact ⟨i', rfl, HI'.out.1, .inr ⟨⟨q, N, cc, HN4.out, rfl⟩, i, by have := HI'.out.2; omega, HBI.out⟩, HW4⟩
          case measure => exact HMS.out
        · have T2 : decide (ov < (N : Int)) = false := decide_eq_false hl
          clear hl
          go_wp2_with fail
          go_roundw
          case rel => exact ⟨i', rfl, HI'.out.1, .inr ⟨⟨q, N, cc, HN5.out, rfl⟩, i, by have := HI'.out.2; omega, HBI.out⟩, HW3⟩
          case measure => exact HMS.out
    · have T1 : decide ((0 : Int) < ov) = false := decide_eq_false hp
      have HNB : Hid (¬ Bk X Y m i i) := fun h => hp (by have := HIF.out.2 h; omega)
      have HU2 := Lib.hid (HU.out.skip HNB.out HI'.out.2)
      clear hp
      go_wp2_with fail
      go_roundw
      case rel => exact ⟨i', rfl, HI'.out.1, HU2, HW3⟩
      case measure => exact HMS.out
  · have e : i = n := by have := Hi.out; omega
    have T0 : decide ((i : Int) < (n : Int)) = false := by simp <;> omega
    have T0' : decide (i < n) = false := decide_eq_false hlt
    have HEN := Lib.hid e
    have HWB := Lib.hid (HB2.out.trans (HW.out.mono HB2.out.size))
    clear hlt e
    rcases HU.out with ⟨hu, hno⟩ | ⟨⟨q, N, cc, hN, hu⟩, hex⟩
    · subst hu
      have HR : Hid (r = 12) := by
       show _ = _
       rw [← HRR.out, if_neg]
       intro h
       obtain ⟨b, hb, hB⟩ := (ordO_iff HE.out).1 h
       exact hno b (by have := HEN.out; omega) hB
      have q0 := eql_nil0 wr
      clear hno
      go_wp2_with fail
      go_ret2
      exact ⟨⟨_, by rw [HR.out]; rfl⟩, HWB.out⟩
    · subst hu
      have HR : Hid (r = 0) := by
       show _ = _
       obtain ⟨b, hb, hB⟩ := hex
       rw [← HRR.out, if_pos]
       exact (ordO_iff HE.out).2 ⟨b, by have := HEN.out; omega, hB⟩
      have q0 := eql_nil1 ⟨q, 0, none⟩ N cc wr
      clear hex hN
      go_wp2_with fail
      go_ret2
      exact ⟨⟨_, by rw [HR.out]; rfl⟩, HWB.out⟩
end Go.Proofs.YtghefgifhebniaaGreatDoor

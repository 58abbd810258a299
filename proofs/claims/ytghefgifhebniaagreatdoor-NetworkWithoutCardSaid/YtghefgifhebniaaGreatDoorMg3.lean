/- Merged texts of these proofs: WyP, WtP, Ctn. -/
import Derived.Test.YtghefgifhebniaaGreatDoorMg2
import Derived.Test.YtghefgifhebniaaGreatDoorMgD
import Derived.Test.YtghefgifhebniaaGreatDoorMgC
import Derived.Test.YtghefgifhebniaaGreatDoorMgS
import Derived.Test.YtghefgifhebniaaGreatDoorShelf
import Derived.Test.YtghefgifhebniaaGreatDoorMgA
import Derived.Test.YtghefgifhebniaaGreatDoorStrs
namespace Go.Proofs.YtghefgifhebniaaGreatDoor
set_option linter.unusedVariables false
set_option linter.unusedSimpArgs false
theorem wayP_less {X Y X' Y' : Nat → Int} {m m' : Nat} (he : ∀ k, k < m' → ∃ j, j < m ∧ X j = X' k ∧ Y j = Y' k) {a b : Int} (h : WayP X' Y' m' a b) : WayP X Y m a b := by
 have h0 : ∀ z, nextP X' Y' m' a z → WayP X Y m a z := fun z ⟨j, hj, e1, e2⟩ => by
  obtain ⟨i, hi, a1, a2⟩ := he j hj
  exact .src ⟨i, hi, by rw [a1, e1], by rw [a2, e2]⟩
 have h1 : ∀ j, j < m' → WayP X Y m a (X' j) → WayP X Y m a (Y' j) := fun j hj h => by
  obtain ⟨i, hi, a1, a2⟩ := he j hj
  rw [← a2]
  exact .step hi (by rw [a1]; exact h)
 exact Rch.closed (P := fun z => WayP X Y m a z) h0 h1 h
theorem mem_nmL {D : Nds} {o : Nat → Bool} {n : Nat} {s : ByteArray} : s ∈ nmL D o n ↔ ∃ v, v < n ∧ o v = true ∧ D.Nm v = s := by
 unfold nmL
 simp only [List.mem_map, List.mem_filter, List.mem_range]
 constructor
 · rintro ⟨v, ⟨h1, h2⟩, h3⟩; exact ⟨v, h1, h2, h3⟩
 · rintro ⟨v, h1, h2, h3⟩; exact ⟨v, ⟨h1, h2⟩, h3⟩
end Go.Proofs.YtghefgifhebniaaGreatDoor
namespace Go.Proofs.YtghefgifhebniaaGreatDoor
open Go.RowKit
set_option linter.unusedVariables false
set_option linter.unusedSimpArgs false
def skp (i k : Nat) : Nat := if k < i then k else k + 1
theorem skp_ne (i k : Nat) : skp i k ≠ i := by unfold skp; split <;> omega
theorem skp_inj {i a b : Nat} (h : skp i a = skp i b) : a = b := by unfold skp at h; split at h <;> split at h <;> omega
theorem skp_lt {i k m : Nat} (h : k < m - 1) : skp i k < m := by unfold skp; split <;> omega
theorem cut_at_ {K K' : Lks} {m m' i : Nat} (hi : i < m) (h : recL K' m' = cutL K i m) : m' = m - 1 ∧ ∀ k, k < m' → lkrOf K' k = lkrOf K (skp i k) := by
 have hl : m' = m - 1 := by have := congrArg List.length h; rwa [recL_len, cutL_len K hi] at this
 refine ⟨hl, fun k hk => ?_⟩
 have h1 : (recL K' m')[k]? = some (lkrOf K' k) := by simp [recL, hk]
 rw [h] at h1
 unfold cutL at h1
 rw [List.getElem?_eraseIdx] at h1
 unfold skp
 by_cases hki : k < i
 · rw [if_pos hki] at h1 ⊢
   have : (recL K m)[k]? = some (lkrOf K k) := by simp [recL, show k < m by omega]
   rw [this] at h1
   exact (Option.some.inj h1).symm
 · rw [if_neg hki] at h1 ⊢
   have : (recL K m)[k + 1]? = some (lkrOf K (k + 1)) := by simp [recL, show k + 1 < m by omega]
   rw [this] at h1
   exact (Option.some.inj h1).symm
theorem fnd_it {X : Nat → ByteArray} {n i : Nat} (hi : i < n) (h : ∀ j, j < i → X j ≠ X i) : fnd X n (X i) = (i : Int) := by
 have := fnd_at (X := X) (n := n) (s := X i) (k := i) ⟨by omega, fun j hj => decide_eq_false (h j hj), fun _ => decide_eq_true rfl⟩
 rwa [if_pos hi] at this
theorem netP_injL {D : Nds} {K : Lks} {n m i j : Nat} (h : netP D n K m) (hi : i < m) (hj : j < m) (e : K.Nm i = K.Nm j) : i = j := by
 have h1 := (h.2.2.2 i hi).2.1
 have h2 := (h.2.2.2 j hj).2.1
 rw [e] at h1
 omega
theorem netP_cut {D D' : Nds} {K K' : Lks} {n n' m m' i : Nat} (hp : netP D n K m) (hi : i < m) (hN : recN D' n' = recN D n) (hL : recL K' m' = cutL K i m) : netP D' n' K' m' := by
 obtain ⟨rfl, hn⟩ := recN_eq.1 hN
 obtain ⟨hm, hl⟩ := cut_at_ hi hL
 have fN : ∀ s, fnd D'.Nm n' s = fnd D.Nm n' s := fnd_eq fun j hj => nm_of (hn j hj)
 have hnm : ∀ k, k < m' → K'.Nm k = K.Nm (skp i k) := fun k hk => (lkrOf_eq.1 (hl k hk)).1
 refine ⟨hp.1, by have := hp.2.1; omega, fun j hj => ?_, fun k hk => ?_⟩
 · obtain ⟨a, b⟩ := hp.2.2.1 j hj
   refine ⟨ndP_eq (hn j hj).symm a, ?_⟩
   rw [fN, nm_of (hn j hj)]; exact b
 · have hs : skp i k < m := skp_lt (by omega)
   obtain ⟨a, b, c, d, e⟩ := hp.2.2.2 _ hs
   obtain ⟨e1, e2, e3, _⟩ := lkrOf_eq.1 (hl k hk)
   refine ⟨lkP_eq (hl k hk).symm a, fnd_it hk fun j hj e4 => ?_, ?_, ?_, ?_⟩
   · rw [hnm j (by omega), hnm k hk] at e4
     have := skp_inj (netP_injL hp (skp_lt (by omega)) hs e4)
     omega
   · rw [fN, e2]; exact c
   · rw [fN, e3]; exact d
   · rw [fN, e2]
     rcases fnd_bd D.Nm n' (K.Fr (skp i k)) with hq | ⟨v, hv, hq, _⟩
     · omega
     · rw [hq, Int.toNat_natCast] at e ⊢
       rw [(ndrOf_eq.1 (hn v hv)).2.1]
       exact e
theorem cut_gone {D : Nds} {K K' : Lks} {n m m' i : Nat} (hp : netP D n K m) (hi : i < m) (hL : recL K' m' = cutL K i m) : fnd K'.Nm m' (K.Nm i) < 0 := by
 obtain ⟨hm, hl⟩ := cut_at_ hi hL
 rcases fnd_bd K'.Nm m' (K.Nm i) with h | ⟨k, hk, _, h⟩
 · omega
 · rw [(lkrOf_eq.1 (hl k hk)).1] at h
   exact absurd (netP_injL hp (skp_lt (by omega)) hi h) (skp_ne i k)
theorem cut_edges {D D' : Nds} {K K' : Lks} {n n' m m' i : Nat} (hi : i < m) (hN : recN D' n' = recN D n) (hL : recL K' m' = cutL K i m) (k : Nat) (hk : k < m') : ∃ j, j < m ∧ eX D n K j = eX D' n' K' k ∧ eY D n K j = eY D' n' K' k := by
 obtain ⟨rfl, hn⟩ := recN_eq.1 hN
 obtain ⟨hm, hl⟩ := cut_at_ hi hL
 have fN : ∀ s, fnd D'.Nm n' s = fnd D.Nm n' s := fnd_eq fun j hj => nm_of (hn j hj)
 obtain ⟨e1, e2, e3, _⟩ := lkrOf_eq.1 (hl k hk)
 exact ⟨skp i k, skp_lt (by omega), by unfold eX; rw [fN, e2], by unfold eY; rw [fN, e3]⟩
theorem ordO_less {n m m' : Nat} {X Y X' Y' : Nat → Int} (he : ∀ k, k < m' → ∃ j, j < m ∧ X j = X' k ∧ Y j = Y' k) (h : ¬ (ordO n X Y m).length < n) : ¬ (ordO n X' Y' m').length < n := by
 have h1 := ordL_spec n [] (OrdP.nil n X Y m)
 have h2 := ordL_spec n [] (OrdP.nil n X' Y' m')
 have hnone := h2.2 (by simp)
 have hP := h1.1
 change OrdP n X Y m (ordO n X Y m) at hP
 change pick n X' Y' m' (ordO n X' Y' m') = none at hnone
 have hQ : OrdP n X' Y' m' (ordO n X' Y' m') := h2.1
 generalize ordO n X Y m = L at h hP
 generalize ordO n X' Y' m' = M at hnone hQ
 -- all of L is in M
 have key : ∀ (N : Nat) (A B : List Int), A.length = N → L = A ++ B → ∀ z, z ∈ A → z ∈ M := by
  intro N
  induction N with
  | zero => intro A B hl _ z hz; rw [List.eq_nil_of_length_eq_zero hl] at hz; simp at hz
  | succ N ih =>
    intro A0 B hl e z hz
    obtain ⟨A, v, rfl⟩ := list_snoc hl
    have hA := ih A (v :: B) (by simpa using hl) (by rw [e]; simp)
    rcases List.mem_append.1 hz with hz | hz
    · exact hA z hz
    · rw [List.mem_singleton.1 hz]
      have hv : v ∈ L := by rw [e]; simp
      obtain ⟨hv0, hvn⟩ := hP.bd v hv
      have hr := pick_none hnone v.toNat (by omega)
      refine Classical.byContradiction fun hn => ?_
      have : rdyB X' Y' m' M v.toNat = true := rdyB_iff.2 ⟨by rw [Int.toNat_of_nonneg hv0]; exact hn, fun k hk hy => ?_⟩
      · rw [this] at hr; cases hr
      · rw [Int.toNat_of_nonneg hv0] at hy
        obtain ⟨j, hj, e1, e2⟩ := he k hk
        have := hP.pre A v B (by rw [e]; simp) j hj (by rw [e2, hy])
        rw [e1] at this
        exact hA _ this
 have hsub : ∀ z, z ∈ L → z ∈ M := key L.length L [] rfl (by simp)
 have hlen : L.length ≤ M.length := by
  have h1 : (L.map Int.toNat).Nodup := by
   rw [List.Nodup, List.pairwise_map]
   refine hP.nd.imp_of_mem (fun ha hb hab e => hab ?_)
   have := (hP.bd _ ha).1
   have := (hP.bd _ hb).1
   omega
  have h2 : (L.map Int.toNat) ⊆ (M.map Int.toNat) := fun x hx => by
   obtain ⟨z, hz, rfl⟩ := List.mem_map.1 hx
   exact List.mem_map.2 ⟨z, hsub z hz, rfl⟩
  have h3 := nd_sub h1 h2
  simpa using h3
 omega
end Go.Proofs.YtghefgifhebniaaGreatDoor
namespace Go.Proofs.YtghefgifhebniaaGreatDoor
open Go.RowKit Go.Sort
set_option linter.unusedVariables false
set_option linter.unusedSimpArgs false
theorem boolOf_eq2 {p : Prop} {b : Bool} (h : b = true ↔ p) : b = boolOf p := boolOf_eq h
theorem ctn {B : Nat} {u : Value} {L : List ByteArray} {w : World} (s : ByteArray) (h : w.ownsRow B 9 1 u L.length (sc L)) (hl : L.length ≤ 2000) : Calls Tryz.prog 29 #[u, .string s] w fun e w' => e = .returned (.bool (boolOf (s ∈ L))) ∧ Below w.heap.size w w' := by
 by_cases hL : L = []
 · subst hL
   obtain ⟨A, c, rfl⟩ := nr_form h
   refine (Tryz.slices_Contains_string_empty A c s w).mono ?_
   rintro e w' ⟨he, rfl⟩
   exact ⟨by rw [he, boolOf_false (by simp)], Below.refl _ _⟩
 · obtain ⟨g, c, rfl, hg, hc⟩ := own_strs h hL
   refine (Tryz.slices_Contains_string g 0 L.length c L s w (Nat.le_refl _) (by omega) hc).mono ?_
   rintro e w' ⟨he, rfl⟩
   refine ⟨?_, Below.refl _ _⟩
   rw [he, List.take_length, boolOf_eq2 (Lib.containsS_iff L s)]
structure BoxS (w : World) (g : Nat) (L : List ByteArray) : Prop where
 lt : g < w.heap.size
 at_ : ∃ B u, w.cell? ⟨g, 0, none⟩ = some u ∧ w.ownsRow B 9 1 u L.length (sc L)
theorem BoxS.below {w w' : World} {g : Nat} {L : List ByteArray} (h : BoxS w g L) (hb : Below w.heap.size w w') : BoxS w' g L := by
 obtain ⟨B, u, h1, h2⟩ := h.at_
 exact ⟨Nat.lt_of_lt_of_le h.lt hb.size, B, u, (hb.cell (p := ⟨g, 0, none⟩) h.lt).trans h1, own_below h2 hb⟩
theorem own_strin {w : World} {B N c : Nat} {A : Option Addr} {R : List ByteArray} (hN : N = R.length) (h : w.ownsRow B 9 1 (.slice A N c) R.length (sc R)) (hb : N ≤ 2000) : StrIn w A N (fun j => R.getD j ByteArray.empty) := by
 refine ⟨by omega, ?_⟩
 by_cases hR : R = []
 · left; rw [hN, hR]; rfl
 · obtain ⟨g, c', e, hg, hc⟩ := own_strs h hR
   cases e
   exact .inr ⟨g, 0, rfl, hg, fun j hj => by have := hc j (by omega); exact this⟩
theorem p_outW (L : List ByteArray) (g : Nat) (s : ByteArray) (f : Bool) (hf : f = boolOf (¬ s ∈ L)) (hl : L.length ≤ 2000) (w : World) (hB : BoxS w g L) :
 Calls Tryz.prog 44 #[.string s, .pointer (some ⟨g, 0, none⟩)] w fun e w' => e = .returned (.bool f) ∧ Below w.heap.size w w' := by
 obtain ⟨B, u, hy, ho⟩ := hB.at_
 have S := ctn s ho hl
 clear ho hB
 by_cases h : s ∈ L
 · obtain rfl : f = false := by rw [hf]; exact boolOf_false (fun q => q h)
   rw [boolOf_true h] at S
   have HS := Lib.hid S
   clear S h hf hl
   go_enter Tryz.func44, Tryz.ntmps44
   go_wp2_with (first | (go_at_call 29; (with_reducible refine (HS.out).mono ?_); rintro e w1 ⟨rfl, hb1⟩; obtain ⟨hc1, hf1⟩ := bcell hb1; have hz1 := hb1.size; (try simp at hz1); (try simp only [heap_drew, World.heap_drewN] at hz1); (try simp only [heap_drew, World.heap_drewN] at hc1); (try simp only [heap_drew, World.heap_drewN] at hf1); (try have hs1 := Nat.lt_of_succ_le hz1); (try have hs2 := Nat.lt_of_succ_lt hs1); (try have y0 : w.heap.size < w1.heap.size := by omega); (try have y1 : w.heap.size + 1 < w1.heap.size := by omega); (try have y2 : w.heap.size + 2 < w1.heap.size := by omega)))
   go_ret
   exact ⟨rfl, bel⟩
 · obtain rfl : f = true := by rw [hf]; exact boolOf_true h
   rw [boolOf_false h] at S
   have HS := Lib.hid S
   clear S h hf hl
   go_enter Tryz.func44, Tryz.ntmps44
   go_wp2_with (first | (go_at_call 29; (with_reducible refine (HS.out).mono ?_); rintro e w1 ⟨rfl, hb1⟩; obtain ⟨hc1, hf1⟩ := bcell hb1; have hz1 := hb1.size; (try simp at hz1); (try simp only [heap_drew, World.heap_drewN] at hz1); (try simp only [heap_drew, World.heap_drewN] at hc1); (try simp only [heap_drew, World.heap_drewN] at hf1); (try have hs1 := Nat.lt_of_succ_le hz1); (try have hs2 := Nat.lt_of_succ_lt hs1); (try have y0 : w.heap.size < w1.heap.size := by omega); (try have y1 : w.heap.size + 1 < w1.heap.size := by omega); (try have y2 : w.heap.size + 2 < w1.heap.size := by omega)))
   go_ret
   exact ⟨rfl, bel⟩
set_option maxHeartbeats 2000000 in
theorem find_outW (A : Option Addr) (n c k : Nat) (X : Nat → ByteArray) (L : List ByteArray) (hL : L.length ≤ 2000) (g : Nat) (w : World) (h2 : n ≤ 2000) (ht : StrIn w A n X) (hy : BoxS w g L) (hk : FirstAt (fun j => boolOf (¬ X j ∈ L)) n k) (v : Int) (hv : v = if k < n then (k : Int) else -1) :
 Calls Tryz.prog 64 #[.slice A n c, .func (.func 44) #[] #[.pointer (some ⟨g, 0, none⟩)]] w fun e w' => e = .returned (.int .i64 v) ∧ Below w.heap.size w w' := by
 have HT := Lib.hid ht
 have HK := Lib.hid hk
 have H2 := Lib.hid h2
 have HV := Lib.hid hv
 have HY := Lib.hid hy
 clear hy
 clear ht hk h2 hv
 go_enter Tryz.func64, Tryz.ntmps64
 go_wp2_with fail
 go_loopw [8] (fun u wr => ∃ i : Nat, Hid (i ≤ n ∧ i ≤ k) ∧ u = .int .i64 i ∧ Hid (Below w.heap.size w wr)) (fun u _ => n - (RowKit.intOf u).toNat)
 case atStart => exact ⟨0, ⟨Nat.zero_le _, Nat.zero_le _⟩, rfl, Below.refl _ _⟩
 case round =>
  obtain ⟨i, Hi, rfl, HW⟩ := hrel
  by_cases hlt : i < n
  · have T0 : decide ((i : Int) < (n : Int)) = true := by simp <;> omega
    have T0' : decide (i < n) = true := decide_eq_true hlt
    obtain ⟨i', hi'⟩ : ∃ z, z = i + 1 := ⟨_, rfl⟩
    have x0 : IntKind.i64.wrap ((i : Int) + 1) = (i' : Int) := by have := H2.out; rw [IntKind.wrap_i64]; omega
    obtain ⟨b, off, rfl, hb, hX⟩ := (HT.out.below (Nat.le_refl _) HW.out).at hlt
    have k0 : (0 : Int) ≤ (i : Int) := by omega
    have k1 : (i : Int) < (n : Int) := by omega
    have hyr : BoxS wr g L := HY.out.below HW.out
    have HMS : Hid (n - (RowKit.intOf (Value.int .i64 (i' : Int))).toNat < n - (RowKit.intOf (Value.int .i64 (i : Int))).toNat) := by show _ < _; simp [RowKit.intOf]; omega
    rcases first_at HK.out hlt Hi.out.2 with ⟨hp, hik⟩ | ⟨hp, hik⟩
    · have KK := Lib.hid (p_outW L g (X i) true hp.symm hL wr hyr)
      have HR : Hid ((i : Int) = v) := by show (i : Int) = v; rw [HV.out, hik, if_pos (by omega)]
      clear hi' hp hik hyr
      go_wp2_with (first | (go_at_call 44; (with_reducible refine (KK.out).mono ?_); rintro e w1 ⟨rfl, hb1⟩; obtain ⟨hc1, hf1⟩ := bcell hb1; have hz1 := hb1.size; (try simp at hz1); (try simp only [heap_drew, World.heap_drewN] at hz1); (try simp only [heap_drew, World.heap_drewN] at hc1); (try simp only [heap_drew, World.heap_drewN] at hf1); (try have hs1 := Nat.lt_of_succ_le hz1); (try have hs2 := Nat.lt_of_succ_lt hs1); (try have y0 : w.heap.size < w1.heap.size := by omega); (try have y1 : w.heap.size + 1 < w1.heap.size := by omega); (try have y2 : w.heap.size + 2 < w1.heap.size := by omega)))
      go_ret
      refine ⟨ret_int HR.out, ?_⟩
      have := HW.out
      exact bel
    · have KK := Lib.hid (p_outW L g (X i) false hp.symm hL wr hyr)
      have HI' : Hid (i' ≤ n ∧ i' ≤ k) := by show _ ∧ _; omega
      clear hi' hp hik hyr
      go_wp2_with (first | (go_at_call 44; (with_reducible refine (KK.out).mono ?_); rintro e w1 ⟨rfl, hb1⟩; obtain ⟨hc1, hf1⟩ := bcell hb1; have hz1 := hb1.size; (try simp at hz1); (try simp only [heap_drew, World.heap_drewN] at hz1); (try simp only [heap_drew, World.heap_drewN] at hc1); (try simp only [heap_drew, World.heap_drewN] at hf1); (try have hs1 := Nat.lt_of_succ_le hz1); (try have hs2 := Nat.lt_of_succ_lt hs1); (try have y0 : w.heap.size < w1.heap.size := by omega); (try have y1 : w.heap.size + 1 < w1.heap.size := by omega); (try have y2 : w.heap.size + 2 < w1.heap.size := by omega)))
      go_roundw
      case rel => exact ⟨i', HI', rfl, HW.out.trans (hb1.mono HW.out.size)⟩
      case measure => exact HMS.out
  · have e : i = n := by have := Hi.out; omega
    have HR : Hid ((-1 : Int) = v) := by show (-1 : Int) = v; rw [HV.out, if_neg (by have := Hi.out; omega)]
    have T0 : decide ((i : Int) < (n : Int)) = false := by simp <;> omega
    have T0' : decide (i < n) = false := decide_eq_false hlt
    clear e hlt
    go_wp2_with fail
    go_ret
    exact ⟨ret_int HR.out, HW.out⟩
theorem has_outW (A : Option Addr) (n c : Nat) (X : Nat → ByteArray) (L : List ByteArray) (hL : L.length ≤ 2000) (g : Nat) (w : World) (h2 : n ≤ 2000) (ht : StrIn w A n X) (hy : BoxS w g L) (f : Bool) (hf : f = true ↔ ∃ j, j < n ∧ (fun j => boolOf (¬ X j ∈ L)) j = true) :
 Calls Tryz.prog 30 #[.slice A n c, .func (.func 44) #[] #[.pointer (some ⟨g, 0, none⟩)]] w fun e w' => e = .returned (.bool f) ∧ Below w.heap.size w w' := by
 obtain ⟨k, hk⟩ := first_ex (fun j => boolOf (¬ X j ∈ L)) n
 have hany := first_any hk
 have S := Lib.hid (find_outW A n c k X L hL g w h2 ht hy hk _ rfl)
 by_cases hkn : k < n
 · have hft : f = true := hf.2 (hany.1 hkn)
   rw [if_pos hkn] at S
   have t : decide ((0 : Int) ≤ (k : Int)) = true := decide_eq_true (by omega)
   subst hft
   clear hk hany hkn hf ht h2 hy hL
   go_enter Tryz.func30, Tryz.ntmps30
   go_wp2_with (first | (go_at_call 64; (with_reducible refine (S.out).mono ?_); rintro e w1 ⟨rfl, hb1⟩; obtain ⟨hc1, hf1⟩ := bcell hb1; have hz1 := hb1.size; (try simp at hz1); (try simp only [heap_drew, World.heap_drewN] at hz1); (try simp only [heap_drew, World.heap_drewN] at hc1); (try simp only [heap_drew, World.heap_drewN] at hf1); (try have hs1 := Nat.lt_of_succ_le hz1); (try have hs2 := Nat.lt_of_succ_lt hs1); (try have y0 : w.heap.size < w1.heap.size := by omega); (try have y1 : w.heap.size + 1 < w1.heap.size := by omega); (try have y2 : w.heap.size + 2 < w1.heap.size := by omega)))
   go_ret
   refine ⟨rfl, ?_⟩
   exact bel
 · have hft : f = false := by
    cases f with
    | false => rfl
    | true => exact absurd (hany.2 (hf.1 rfl)) hkn
   rw [if_neg hkn] at S
   subst hft
   clear hk hany hkn hf ht h2 hy hL
   go_enter Tryz.func30, Tryz.ntmps30
   go_wp2_with (first | (go_at_call 64; (with_reducible refine (S.out).mono ?_); rintro e w1 ⟨rfl, hb1⟩; obtain ⟨hc1, hf1⟩ := bcell hb1; have hz1 := hb1.size; (try simp at hz1); (try simp only [heap_drew, World.heap_drewN] at hz1); (try simp only [heap_drew, World.heap_drewN] at hc1); (try simp only [heap_drew, World.heap_drewN] at hf1); (try have hs1 := Nat.lt_of_succ_le hz1); (try have hs2 := Nat.lt_of_succ_lt hs1); (try have y0 : w.heap.size < w1.heap.size := by omega); (try have y1 : w.heap.size + 1 < w1.heap.size := by omega); (try have y2 : w.heap.size + 2 < w1.heap.size := by omega)))
   go_ret
   refine ⟨rfl, ?_⟩
   exact bel
theorem has_subW {B : Nat} {A : Option Addr} {N c g : Nat} {R L : List ByteArray} {w : World} (hN : N = R.length) (h : w.ownsRow B 9 1 (.slice A N c) R.length (sc R)) (hb : N ≤ 2000) (hL : L.length ≤ 2000) (hB : BoxS w g L) (hs : ∀ s, s ∈ R → s ∈ L) :
 Calls Tryz.prog 30 #[.slice A N c, .func (.func 44) #[] #[.pointer (some ⟨g, 0, none⟩)]] w fun e w' => e = .returned (.bool false) ∧ Below w.heap.size w w' := by
 refine has_outW A N c _ L hL g w hb (own_strin hN h hb) hB false ⟨fun e => (by cases e), ?_⟩
 rintro ⟨j, hj, hp⟩
 refine absurd (hs _ ?_) (of_boolOf hp)
 show R.getD j ByteArray.empty ∈ R
 have : j < R.length := by omega
 simp [List.getD, this]
end Go.Proofs.YtghefgifhebniaaGreatDoor

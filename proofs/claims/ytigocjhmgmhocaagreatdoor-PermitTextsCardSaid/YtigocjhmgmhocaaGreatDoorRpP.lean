/- The reference's Parse. -/
import Derived.Test.YtigocjhmgmhocaaGreatDoorRpL
import Derived.Test.YtigocjhmgmhocaaGreatDoorPqW
namespace Go.Proofs.YtigocjhmgmhocaaGreatDoor
open Go.RowKit
set_option linter.unusedVariables false
set_option linter.unusedSimpArgs false

theorem wdc_no (c : UInt8) : ∀ (l : List UInt8) a, a ∈ wdc c l → c ∉ a := by
  intro l
  induction l with
  | nil => intro a h; simp [wdc] at h; simp [h]
  | cons d r ih =>
    intro a h
    unfold wdc at h
    split at h
    · rcases List.mem_cons.1 h with rfl | h
      · simp
      · exact ih a h
    · rename_i hdc
      cases e : wdc c r with
      | nil => exact absurd e (wdc_ne c r)
      | cons x t =>
        rw [e] at h ih
        rcases List.mem_cons.1 h with rfl | h
        · intro hc
          rcases List.mem_cons.1 hc with h1 | h1
          · exact hdc h1.symm
          · exact ih x (by simp) h1
        · exact ih a (by simp [h])
def lastL (z : List UInt8) : List (List UInt8) := if z = [] then [] else [z]
theorem rl_wdc : ∀ (s : List UInt8) (A : List (List UInt8)) (z : List UInt8), wdc 10 s = A ++ [z] → rl s = A.map (· ++ [10]) ++ lastL z := by
  intro s
  induction s with
  | nil =>
    intro A z h
    cases A with
    | nil => simp [wdc] at h; simp [rl, lastL, h]
    | cons a A => simp [wdc] at h
  | cons c r ih =>
    intro A z h
    unfold wdc at h
    by_cases hc : c = 10
    · rw [if_pos hc] at h
      cases A with
      | nil =>
        simp at h
        exact absurd h.2 (wdc_ne 10 r)
      | cons a A =>
        simp only [List.cons_append, List.cons.injEq] at h
        have := ih A z h.2
        unfold rl
        rw [if_pos hc, this, ← h.1]
        rfl
    · rw [if_neg hc] at h
      unfold rl
      rw [if_neg hc]
      cases e : wdc 10 r with
      | nil => exact absurd e (wdc_ne 10 r)
      | cons x t =>
        rw [e] at h
        cases A with
        | nil =>
          simp only [List.nil_append, List.cons.injEq] at h
          have h2 := ih [] x (by rw [e, h.2]; rfl)
          rw [h2, ← h.1]
          unfold lastL
          by_cases hx : x = []
          · simp [hx]
          · simp [hx]
        | cons a A =>
          simp only [List.cons_append, List.cons.injEq] at h
          have h2 := ih (x :: A) z (by rw [e, h.2]; rfl)
          rw [h2, ← h.1]
          rfl
/-- How far the reference's Parse has come. -/
structure RqI (A : List (List UInt8)) (L : List Pmr) (i : Nat) : Prop where
  le : i ≤ A.length
  ln : L.length = i
  fm : ∀ p, p ∈ L → formP p
  eq : A.take i = L.map pln
theorem RqI.start (A : List (List UInt8)) : RqI A [] 0 := ⟨Nat.zero_le _, rfl, fun _ h => absurd h (by simp), by simp⟩
theorem RqI.next {A : List (List UInt8)} {L : List Pmr} {i : Nat} {p : Pmr} (h : RqI A L i) (hi : i < A.length) (hp : formP p) (he : A[i] = pln p) : RqI A (L ++ [p]) (i + 1) := by
  refine ⟨hi, by simp [h.ln], fun q hq => ?_, ?_⟩
  · rcases List.mem_append.1 hq with h1 | h1
    · exact h.fm q h1
    · rw [List.mem_singleton.1 h1]; exact hp
  · rw [List.take_add_one, h.eq, List.map_append, List.getElem?_eq_getElem hi, he]
    rfl
theorem pll_map (L : List Pmr) : (L.map pln).map (· ++ [10]) = pll L := by unfold pll; rw [List.map_map]; rfl
theorem RqI.form {s : List UInt8} {A : List (List UInt8)} {z : List UInt8} {L : List Pmr} {i : Nat} (h : RqI A L i) (hs : wdc 10 s = A ++ [z]) (hi : i < A.length) (hno : ∀ p, formP p → A[i] ≠ pln p) : PmIs s [] (i + 1) 7 := by
  refine .form (i + 1) L (A[i] ++ [10]) ((A.drop (i + 1)).map (· ++ [10]) ++ lastL z) h.fm ?_ (fun p hp e => hno p hp (List.append_cancel_right e)) (by rw [h.ln])
  rw [rl_wdc s A z hs]
  conv => lhs; rw [← List.take_append_drop i A, List.drop_eq_getElem_cons hi, h.eq, List.map_append, pll_map, List.map_cons]
  simp
theorem RqI.tail {s : List UInt8} {A : List (List UInt8)} {z : List UInt8} {L : List Pmr} {i : Nat} (h : RqI A L i) (hs : wdc 10 s = A ++ [z]) (hi : i = A.length) (hz : z ≠ []) : PmIs s [] (i + 1) 7 := by
  refine .form (i + 1) L z [] h.fm ?_ (fun p hp e => ?_) (by rw [h.ln])
  · have e := h.eq
    rw [hi, List.take_length] at e
    rw [rl_wdc s A z hs, e, pll_map]
    unfold lastL
    rw [if_neg hz]
  · exact wdc_no 10 s z (by rw [hs]; simp) (by rw [e]; simp)
theorem RqI.all {s : List UInt8} {A : List (List UInt8)} {z : List UInt8} {L : List Pmr} {i : Nat} (h : RqI A L i) (hs : wdc 10 s = A ++ [z]) (hi : i = A.length) (hz : z = []) : rl s = pll L := by
  have e := h.eq
  rw [hi, List.take_length] at e
  rw [rl_wdc s A z hs, e, pll_map, hz]
  simp [lastL]
def okB (L : List Pmr) : Bool := L.all fun p => validB p.nm p.nd p.ev p.vol p.tot
theorem okB_true {L : List Pmr} (h : okB L = true) : ∀ p, p ∈ L → okP p := fun p hp => List.all_eq_true.1 h p hp
theorem okB_false {L : List Pmr} (h : okB L = false) : ¬ ∀ p, p ∈ L → okP p := fun g => by
  have : okB L = true := List.all_eq_true.2 g
  rw [h] at this; cases this
theorem okB_snoc (L : List Pmr) (p : Pmr) : okB (L ++ [p]) = (okB L && validB p.nm p.nd p.ev p.vol p.tot) := by unfold okB; rw [List.all_append]; simp
/-- The row that is owned. -/
def QrMem (w wr : World) (u : Value) (N : Nat) (L : List Pmr) : Prop := wr.ownsRow w.heap.size 26 5 u N (pc L) ∧ Below w.heap.size w wr
theorem QrMem.call {w wr w' : World} {u : Value} {N : Nat} {L : List Pmr} (h : QrMem w wr u N L) (hb : Below wr.heap.size wr w') : QrMem w w' u N L := ⟨own_below h.1 hb, below_step h.2 hb⟩
theorem QrMem.al {w wr : World} {u : Value} {N : Nat} {L : List Pmr} (h : QrMem w wr u N L) (o : Obj) : QrMem w (wr.alloc o) u N L := ⟨h.1.alloc _, h.2.alloc h.2.size _⟩
theorem QrMem.app {w wr w' : World} {u v : Value} {N : Nat} {L : List Pmr} {p : Pmr} (h : QrMem w wr u N L) {cs : Array Value} (hown : w'.ownsRow w.heap.size 26 5 v (N + 1) (pc L ++ [.string p.nm, .string p.nd, .int .i64 p.ev, .int .i64 p.vol, .int .i64 p.tot])) (hg : (wr.alloc (.cells cs 26)).grownBy w' u.ownBlock) : QrMem w w' v (N + 1) (L ++ [p]) :=
  ⟨by rw [pc_append, pc_one]; exact hown, below_own (h.1.alloc _) (h.2.alloc h.2.size _) hg⟩
theorem QrMem.pm {w wr : World} {A : Option Addr} {cap N : Nat} {L : List Pmr} (h : QrMem w wr (.slice A N cap) N L) (hN : L.length = N) (hs : N ≤ 5001) : PmIn wr A L.length (pmsL L) := by
  subst hN
  refine ⟨by omega, ?_⟩
  rcases h.1.2 with ⟨hv', h0⟩ | ⟨g, cap', cur, hv', _⟩
  · exact .inl h0
  · cases hv'
    exact .inr ⟨g, 0, rfl, pms_of_pc h.1⟩
theorem wdcs_get (c : UInt8) (s : ByteArray) (W : List (List UInt8)) (hW : wdc c s.data.toList = W) (k : Nat) (h : k < W.length) : ((wdcs c s).getD k ByteArray.empty).data.toList = W[k] := by
  subst hW
  unfold wdcs
  simp [List.getD, h]
def RqPost (w : World) (s : ByteArray) (e : Ending) (w' : World) : Prop :=
  ∃ (L : List Pmr) (k : Nat) (er : Int) (A : Option Addr) (cap : Nat), PmIs s.data.toList L k er ∧ e = .returned (.tuple #[.slice A L.length cap, .int .i64 k, .int .i64 er]) ∧ PmIn w' A L.length (pmsL L) ∧ Below w.heap.size w w'
theorem rparse_long (s : ByteArray) (hs : 262144 < s.size) (w : World) : Calls Tryz.prog 13 #[.string s] w fun e w' => e = .returned (.tuple #[.slice none 0 0, .int .i64 0, .int .i64 4]) ∧ Below w.heap.size w w' := by
  have T0 : decide ((262144 : Int) < (s.size : Int)) = true := decide_eq_true (by omega)
  have T0' : decide (262144 < s.size) = true := decide_eq_true hs
  clear hs
  go_enter Tryz.func13, Tryz.ntmps13
  go_wp2_with fail
  go_ret3
  exact ⟨rfl, Below.refl _ _⟩
set_option maxRecDepth 100000 in
set_option maxHeartbeats 8000000 in
theorem rparse (s : ByteArray) (hs : s.size ≤ 5000) (w : World) : Calls Tryz.prog 13 #[.string s] w (RqPost w s) := by
  obtain ⟨i0, hi0, hz0, hz1, hz2⟩ := info_parts1 info26
  have HI0 := Lib.hid hi0
  have HZ0 := Lib.hid hz0
  have HZ1 := Lib.hid hz1
  have HZ2 := Lib.hid hz2
  have T0 : decide ((262144 : Int) < (s.size : Int)) = false := decide_eq_false (by omega)
  have T0' : decide (262144 < s.size) = false := decide_eq_false (by omega)
  obtain ⟨A, z, hW⟩ : ∃ A z, wdc 10 s.data.toList = A ++ [z] := ⟨_, _, (List.dropLast_concat_getLast (wdc_ne 10 s.data.toList)).symm⟩
  obtain ⟨N, hN⟩ : ∃ N, N = (wdcs 10 s).length := ⟨_, rfl⟩
  obtain ⟨X, hX⟩ : ∃ X : Nat → ByteArray, X = fun k => (wdcs 10 s).getD k ByteArray.empty := ⟨_, rfl⟩
  have hNA : N = A.length + 1 := by rw [hN]; unfold wdcs; rw [List.length_map, hW]; simp
  have hNs : N ≤ s.size + 1 := by
    have h1 := wdc_len 10 s.data.toList
    have h2 := size_lst s
    rw [hN]; unfold wdcs; rw [List.length_map]; omega
  have hXa : ∀ k (h : k < A.length), (X k).data.toList = A[k] := fun k h => by
    rw [hX]
    have e := wdcs_get 10 s _ hW k (by simp; omega)
    rw [e, List.getElem_append_left h]
  have hXz : (X A.length).data.toList = z := by
    rw [hX]
    have e := wdcs_get 10 s _ hW A.length (by simp)
    rw [e]
    simp
  have hXs : ∀ k, k < N → (X k).size ≤ 5000 := fun k h => by
    have h1 : (X k).data.toList ∈ wdc 10 s.data.toList := by
      rw [hW]
      by_cases hk : k < A.length
      · rw [hXa k hk]; simp
      · rw [show k = A.length from by omega, hXz]; simp
    have h2 : ∀ (c : UInt8) (l a : List UInt8), a ∈ wdc c l → a.length ≤ l.length := by
      intro c l
      induction l with
      | nil => intro a h; simp [wdc] at h; simp [h]
      | cons d r ih =>
        intro a h
        unfold wdc at h
        split at h
        · rcases List.mem_cons.1 h with rfl | h
          · simp
          · have := ih a h; simp; omega
        · cases e : wdc c r with
          | nil => exact absurd e (wdc_ne c r)
          | cons x t =>
            rw [e] at h ih
            rcases List.mem_cons.1 h with rfl | h
            · have := ih x (by simp); simp; omega
            · have := ih a (by simp [h]); simp; omega
    have h3 := h2 _ _ _ h1
    have h4 := size_lst s
    have h5 := size_lst (X k)
    omega
  have SP : Hid (∀ w : World, Calls Tryz.prog 31 #[.string s, .int .u8 10] w fun e w' => ∃ g cap : Nat, e = .returned (.slice (some ⟨g, 0, none⟩) N cap) ∧ StrAt w' g 0 N X ∧ Below w.heap.size w w') := fun w => by
    have h := rparts s hs 10 w
    subst hX hN
    exact h
  have HNA := Lib.hid hNA
  have HNS := Lib.hid hNs
  have HXA := Lib.hid hXa
  have HXZ := Lib.hid hXz
  have HXS := Lib.hid hXs
  have HW := Lib.hid hW
  have HS := Lib.hid hs
  clear hi0 hz0 hz1 hz2 hNA hNs hXa hXz hXs hW hs hX hN
  go_enter Tryz.func13, Tryz.ntmps13
  go_wp2_with (first
    | (go_at_call 31
       with_reducible refine (SP.out _).mono ?_
       rintro e w1 ⟨g1, cap1, rfl, hst, hb1⟩
       have HST := Lib.hid hst
       have HB1 := Lib.hid hb1
       clear hb1 hst))
  go_loopw [6, 7, 8] (fun u v x wr => ∃ (i : Nat) (L : List Pmr), v = .bool (okB L) ∧ x = .int .i64 i ∧ Hid (RqI A L i) ∧ Hid (QrMem w1 wr u i L)) (fun _ _ x _ => N - (intOf x).toNat)
  case atStart => exact ⟨0, [], rfl, rfl, RqI.start A, World.ownsRow_nil _ _ _ _, Below.refl _ _⟩
  case round =>
    obtain ⟨i, L, rfl, rfl, HA, HM⟩ := hrel
    obtain ⟨A0, cap0, h8⟩ := own_shape HM.out.1
    subst h8
    have hle := HA.out.le
    have hna := HNA.out
    have hns := HNS.out
    have hs5 := HS.out
    have hln := HA.out.ln
    have T1 : decide ((i : Int) < (N : Int)) = true := decide_eq_true (by omega)
    have T1' : decide (i < N) = true := decide_eq_true (by omega)
    obtain ⟨N1, hN1⟩ : ∃ N1, N1 = A.length := ⟨_, rfl⟩
    have x1 : IntKind.i64.wrap ((N : Int) - 1) = (N1 : Int) := by rw [IntKind.wrap_i64]; omega
    obtain ⟨i', hi'⟩ : ∃ z, z = i + 1 := ⟨_, rfl⟩
    have x2 : IntKind.i64.wrap ((i : Int) + 1) = (i' : Int) := by rw [IntKind.wrap_i64]; omega
    have q0 : (0 : Int) ≤ (i : Int) := by omega
    have q1 : (i : Int) < (N : Int) := by omega
    have hz := (HST.out.below HM.out.2 HST.out.1).2 i (by omega)
    simp only [Nat.zero_add] at hz
    obtain ⟨x, hx⟩ : ∃ x, X i = x := ⟨_, rfl⟩
    rw [hx] at hz
    have hxs := HXS.out i (by omega)
    rw [hx] at hxs
    have hl1 : L.length = i := hln
    by_cases hi : i = N1
    · -- the last piece
      have u1 : ((i : Int) == (N1 : Int)) = true := by simp [hi]
      have u2 : decide (i = N1) = true := decide_eq_true hi
      have hxz := HXZ.out
      rw [← hN1, ← hi, hx] at hxz
      by_cases he : x.data.toList = []
      · have ex : x = ⟨#[]⟩ := by rw [← bytes_of x, he]
        have hall := HA.out.all HW.out (by omega) (by rw [← hxz]; exact he)
        subst ex
        have hn10 : 10 * L.length ≤ s.size := by
          have h1 := ptx_len HA.out.fm
          rw [← pll_join, ← hall, rl_join] at h1
          have h2 := size_lst s
          omega
        have t5 : decide ((1000 : Int) < (i : Int)) = false := decide_eq_false (by omega)
        have t5' : decide (1000 < i) = false := decide_eq_false (by omega)
        have N5 : Hid (i ≤ 5001) := by show _ ≤ _; omega
        have HLN := Lib.hid hln
        cases hob : okB L with
        | true =>
          have HIS : Hid (PmIs s.data.toList L 0 0) := .ok L HA.out.fm hall (okB_true hob)
          subst hi
          clear hxz he hall hn10 hle hna hns hs5 hln hxs hl1 hx hi' hN1 hob
          go_wp2_with fail
          go_ret3
          have e := HLN.out
          have hpm := HM.out.pm e N5.out
          exact ⟨L, 0, 0, A0, cap0, HIS.out, by rw [e]; rfl, hpm, HB1.out.trans (HM.out.2.mono HB1.out.size)⟩
        | false =>
          have HIS : Hid (PmIs s.data.toList [] 0 1) := .arg L HA.out.fm hall (okB_false hob)
          subst hi
          clear hxz he hall hn10 hle hna hns hs5 hln hxs hl1 hx hi' hN1 hob
          go_wp2_with fail
          go_ret3
          exact ⟨[], 0, 1, none, 0, HIS.out, rfl, ⟨by simp, .inl rfl⟩, HB1.out.trans (HM.out.2.mono HB1.out.size)⟩
      · have HIS := Lib.hid (HA.out.tail HW.out (by omega) (by rw [← hxz]; exact he))
        rw [← hi'] at HIS
        have u3 : ¬ x.toList = [] := fun e => he (by rw [ByteArray.toList_eq] at e; exact e)
        have u4 : decide (x.toList = []) = false := decide_eq_false u3
        have u5 : (x.toList == []) = false := by simp [u3]
        have u6 : ¬ x.toList = (⟨#[]⟩ : ByteArray).toList := fun e => u3 (by rw [e]; simp [ByteArray.toList_eq])
        have u7 : decide (x.toList = (⟨#[]⟩ : ByteArray).toList) = false := decide_eq_false u6
        have u8 : (x.toList == (⟨#[]⟩ : ByteArray).toList) = false := by simp [u3]
        by_cases hp : ∃ p, formP p ∧ x.data.toList = pln p
        · obtain ⟨p, hp1, hp2⟩ := hp
          have SL := Lib.hid fun w => rline_ok x hxs p hp1 hp2 w
          subst hi
          clear hxz he hle hna hns hs5 hln hxs hl1 hx hi' hN1 hp1 hp2
          go_wp2_with (first
            | (go_at_call 32
               with_reducible refine (SL.out _).mono ?_
               rintro e w2 ⟨rfl, hb2⟩
               have HM2 := Lib.hid (HM.out.call hb2)
               clear hb2))
          go_ret3
          exact ⟨[], i', 7, none, 0, HIS.out, rfl, ⟨by simp, .inl rfl⟩, (HB1.out.trans (HM2.out.2.mono HB1.out.size)).alloc (HB1.out.trans (HM2.out.2.mono HB1.out.size)).size _⟩
        · obtain ⟨p, sl⟩ := rline_no x hxs (fun p h1 h2 => hp ⟨p, h1, h2⟩)
          have SL := Lib.hid sl
          subst hi
          clear hxz he hle hna hns hs5 hln hxs hl1 hx hi' hN1 hp sl
          go_wp2_with (first
            | (go_at_call 32
               with_reducible refine (SL.out _).mono ?_
               rintro e w2 ⟨rfl, hb2⟩
               have HM2 := Lib.hid (HM.out.call hb2)
               clear hb2))
          go_ret3
          exact ⟨[], i', 7, none, 0, HIS.out, rfl, ⟨by simp, .inl rfl⟩, (HB1.out.trans (HM2.out.2.mono HB1.out.size)).alloc (HB1.out.trans (HM2.out.2.mono HB1.out.size)).size _⟩
    · have u1 : ((i : Int) == (N1 : Int)) = false := by simp <;> omega
      have u2 : decide (i = N1) = false := decide_eq_false hi
      have hia : i < A.length := by omega
      have hxa := HXA.out i hia
      rw [hx] at hxa
      by_cases hp : ∃ p, formP p ∧ x.data.toList = pln p
      · obtain ⟨p, hp1, hp2⟩ := hp
        have SL := Lib.hid fun w => rline_ok x hxs p hp1 hp2 w
        have HA' := Lib.hid (HA.out.next hia hp1 (by rw [← hxa]; exact hp2))
        rw [← hi'] at HA'
        have N5 : Hid (i ≤ 5001) := by show _ ≤ _; omega
        have HMS : Hid (N - (intOf (Value.int .i64 (i' : Int))).toNat < N - (intOf (Value.int .i64 (i : Int))).toNat) := by show _ < _; simp [intOf]; omega
        have hsn := okB_snoc L p
        have SV := Lib.hid fun w => rvalid p.nm p.nd p.ev p.vol p.tot (name_max hp1.nm) (name_max hp1.nd) w
        have HII := Lib.hid hi'
        cases hob : okB L with
        | true =>
          rw [hob, Bool.true_and] at hsn
          have HSN := Lib.hid hsn
          clear hle hna hns hs5 hln hxs hl1 hx hi' hN1 hp1 hp2 hxa hia hi hsn hob
          go_wp2_with (first
            | (at_builtin; refine wpList_append_own_at _ ?q1_1 (.tmp 58) (.tmp 60) 22 ?q1_2 (w1.heap.size) 26 i0 (.agg #[.string ⟨#[]⟩, .string ⟨#[]⟩, .int .i64 0, .int .i64 0, .int .i64 0]) 5 56 Tryz.underlying22 HI0.out HZ0.out HZ1.out HZ2.out ?q1_3 ?q1_4 (.slice A0 i cap0) i (pc L) ?q1_5 (HM3.out.1.alloc _) ⟨w3.heap.size, 0, none⟩ 1 1 [.string p.nm, .string p.nd, .int .i64 p.ev, .int .i64 p.vol, .int .i64 p.tot] ?q1_7 (rfl) (World.news_of_block (cs := #[.string p.nm, .string p.nd, .int .i64 p.ev, .int .i64 p.vol, .int .i64 p.tot]) (t := 26) (fr := (0, 0)) ?q1_8) (by simp [Value.oneCell']) (h63_le (by have := N5.out; omega)) (hby_le (by have := N5.out; omega)) (base_alloc1 HM3.out.2.size _) ?q1_14
               case q1_1 => exact rfl
               case q1_2 => exact rfl
               case q1_3 => exact rfl
               case q1_4 => decide
               case q1_5 => exact rfl
               case q1_7 => exact rfl
               case q1_8 => (exact heap_alloc_new _ _)
               intro u2 w7 hown2 hgrow2 hnil2 hat2
               have HM7 := Lib.hid (QrMem.app HM3.out hown2 hgrow2)
               clear hown2 hgrow2 hnil2 hat2)
            | (go_at_call 32
               with_reducible refine (SL.out _).mono ?_
               rintro e w2 ⟨rfl, hb2⟩
               have HM2 := Lib.hid (HM.out.call hb2)
               clear hb2)
            | (go_at_call 10
               with_reducible refine (SV.out _).mono ?_
               rintro e w3 ⟨rfl, hb3⟩
               have HM3 := Lib.hid ((HM2.out.al (.cells #[.string p.nm, .string p.nd, .int .i64 p.ev, .int .i64 p.vol, .int .i64 p.tot] 26)).call hb3)
               have y0 := ((Blk.new w2 26 #[.string p.nm, .string p.nd, .int .i64 p.ev, .int .i64 p.vol, .int .i64 p.tot]).call hb3)
               obtain ⟨c0, c1, c2, c3, c4⟩ := perm_cells y0
               have l0 := y0.lt
               clear hb3 y0))
          go_roundw
          case rel => exact ⟨i', L ++ [p], by rw [HSN.out], rfl, HA', by rw [HII.out]; exact HM7⟩
          case measure => exact HMS.out
        | false =>
          rw [hob, Bool.false_and] at hsn
          have HSN := Lib.hid hsn
          clear hle hna hns hs5 hln hxs hl1 hx hi' hN1 hp1 hp2 hxa hia hi hsn hob
          go_wp2_with (first
            | (at_builtin; refine wpList_append_own_at _ ?q2_1 (.tmp 58) (.tmp 60) 22 ?q2_2 (w1.heap.size) 26 i0 (.agg #[.string ⟨#[]⟩, .string ⟨#[]⟩, .int .i64 0, .int .i64 0, .int .i64 0]) 5 56 Tryz.underlying22 HI0.out HZ0.out HZ1.out HZ2.out ?q2_3 ?q2_4 (.slice A0 i cap0) i (pc L) ?q2_5 ((HM2.out.al (.cells #[.string p.nm, .string p.nd, .int .i64 p.ev, .int .i64 p.vol, .int .i64 p.tot] 26)).1.alloc _) ⟨w2.heap.size + 1, 0, none⟩ 1 1 [.string p.nm, .string p.nd, .int .i64 p.ev, .int .i64 p.vol, .int .i64 p.tot] ?q2_7 (rfl) (World.news_of_block (cs := #[.string p.nm, .string p.nd, .int .i64 p.ev, .int .i64 p.vol, .int .i64 p.tot]) (t := 26) (fr := (0, 0)) ?q2_8) (by simp [Value.oneCell']) (h63_le (by have := N5.out; omega)) (hby_le (by have := N5.out; omega)) (base_alloc1 (HM2.out.al (.cells #[.string p.nm, .string p.nd, .int .i64 p.ev, .int .i64 p.vol, .int .i64 p.tot] 26)).2.size _) ?q2_14
               case q2_1 => exact rfl
               case q2_2 => exact rfl
               case q2_3 => exact rfl
               case q2_4 => decide
               case q2_5 => exact rfl
               case q2_7 => exact rfl
               case q2_8 => (have := heap_alloc_new (w2.alloc (.cells #[.string p.nm, .string p.nd, .int .i64 p.ev, .int .i64 p.vol, .int .i64 p.tot] 26)) (.cells #[.string p.nm, .string p.nd, .int .i64 p.ev, .int .i64 p.vol, .int .i64 p.tot] 26); simpa using this)
               intro u2 w7 hown2 hgrow2 hnil2 hat2
               have HM7 := Lib.hid (QrMem.app (HM2.out.al (.cells #[.string p.nm, .string p.nd, .int .i64 p.ev, .int .i64 p.vol, .int .i64 p.tot] 26)) hown2 hgrow2)
               clear hown2 hgrow2 hnil2 hat2)
            | (go_at_call 32
               with_reducible refine (SL.out _).mono ?_
               rintro e w2 ⟨rfl, hb2⟩
               have HM2 := Lib.hid (HM.out.call hb2)
               clear hb2))
          go_roundw
          case rel => exact ⟨i', L ++ [p], by rw [HSN.out], rfl, HA', by rw [HII.out]; exact HM7⟩
          case measure => exact HMS.out
      · obtain ⟨p, sl⟩ := rline_no x hxs (fun p h1 h2 => hp ⟨p, h1, h2⟩)
        have SL := Lib.hid sl
        have HIS := Lib.hid (HA.out.form HW.out hia (fun q h1 h2 => hp ⟨q, h1, by rw [hxa]; exact h2⟩))
        rw [← hi'] at HIS
        clear hle hna hns hs5 hln hxs hl1 hx hi' hN1 hp hxa hia hi sl
        go_wp2_with (first
          | (go_at_call 32
             with_reducible refine (SL.out _).mono ?_
             rintro e w2 ⟨rfl, hb2⟩
             have HM2 := Lib.hid (HM.out.call hb2)
             clear hb2))
        go_ret3
        exact ⟨[], i', 7, none, 0, HIS.out, rfl, ⟨by simp, .inl rfl⟩, (HB1.out.trans (HM2.out.2.mono HB1.out.size)).alloc (HB1.out.trans (HM2.out.2.mono HB1.out.size)).size _⟩
end Go.Proofs.YtigocjhmgmhocaaGreatDoor

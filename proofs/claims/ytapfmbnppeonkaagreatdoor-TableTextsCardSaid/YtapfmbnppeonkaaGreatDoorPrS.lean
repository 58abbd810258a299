/- The reference's Parse of a table. -/
import Derived.Test.YtapfmbnppeonkaaGreatDoorPrR
namespace Go.Proofs.YtapfmbnppeonkaaGreatDoor
open Go.RowKit
set_option linter.unusedVariables false
set_option linter.unusedSimpArgs false

/-- The text of c knots from the m-th on. -/
def txS (X Y : Nat → Int) : Nat → Nat → List UInt8
  | _, 0 => []
  | m, 1 => ktx (X m) (Y m)
  | m, c + 2 => ktx (X m) (Y m) ++ 32 :: txS X Y (m + 1) (c + 1)
theorem txS_join (X Y : Nat → Int) : ∀ (c m : Nat), 0 < m → txL X Y m ++ 32 :: txS X Y m (c + 1) = txL X Y (m + (c + 1))
  | 0, m, h => by
    show txL X Y m ++ 32 :: ktx (X m) (Y m) = (if 0 < m then txL X Y m ++ [32] else txL X Y m) ++ ktx (X m) (Y m)
    rw [if_pos h]; simp
  | c + 1, m, h => by
    have e := txS_join X Y c (m + 1) (by omega)
    rw [show m + (c + 1 + 1) = m + 1 + (c + 1) from by omega, ← e]
    show txL X Y m ++ 32 :: (ktx (X m) (Y m) ++ 32 :: txS X Y (m + 1) (c + 1)) = ((if 0 < m then txL X Y m ++ [32] else txL X Y m) ++ ktx (X m) (Y m)) ++ 32 :: txS X Y (m + 1) (c + 1)
    rw [if_pos h]; simp
theorem txS_all (X Y : Nat → Int) : ∀ n, txL X Y n = txS X Y 0 n
  | 0 => rfl
  | 1 => rfl
  | n + 2 => by
    have e := txS_join X Y n 1 (by omega)
    rw [show n + 2 = 1 + (n + 1) from by omega, ← e]
    rw [show 1 + (n + 1) = n + 2 from by omega]
    show (([] : List UInt8) ++ ktx (X 0) (Y 0)) ++ 32 :: txS X Y 1 (n + 1) = ktx (X 0) (Y 0) ++ 32 :: txS X Y 1 (n + 1)
    rfl
theorem txS_step (X Y : Nat → Int) (m c : Nat) : txS X Y m (c + 1) = Lib.itoa (X m) ++ 58 :: (Lib.itoa (Y m) ++ if c = 0 then [] else 32 :: txS X Y (m + 1) c) := by
  cases c with
  | zero => show ktx _ _ = _; simp [ktx]
  | succ c => show ktx _ _ ++ 32 :: _ = _; simp [ktx]
/-- Where the loop stands, for whatever table has the text. -/
def AgK (s : ByteArray) (k : Nat) (L : List (Int × Int)) : Prop := ∀ n X Y, TabOK n X Y → s.data.toList = txL X Y n → L = tl L.length X Y ∧ L.length ≤ n ∧ (L.length = n → k = s.size + 1) ∧ (L.length < n → s.data.toList.drop k = txS X Y L.length (n - L.length))
theorem agK_start (s : ByteArray) : AgK s 0 [] := fun n X Y hok hx => ⟨rfl, Nat.zero_le _, fun h => by have := hok.1; simp at h; omega, fun _ => by rw [List.drop_zero, hx, txS_all]; rfl⟩
theorem noDig_58 (r : List UInt8) : NoDig (58 :: r) := fun c r' e => by
  simp at e; rw [← e.1]; exact .inr (by decide)
theorem noDig_rest (X Y : Nat → Int) (m c : Nat) : NoDig (if c = 0 then [] else 32 :: txS X Y (m + 1) c) := fun ch r' e => by
  split at e
  · cases e
  · simp at e; rw [← e.1]; exact .inl (by decide)
theorem itoa_pos (v : Int) : 0 < (Lib.itoa v).length := by
  by_cases hv : v < 0
  · rw [itoa_neg' hv]; simp
  · rw [itoa_pos' hv]
    obtain ⟨c, r, e, _⟩ := dec_head (u := v.toNat)
    rw [e]; simp
theorem drop_more {T a b : List UInt8} {k : Nat} (h : T.drop k = a ++ b) : T.drop (k + a.length) = b := by
  rw [← List.drop_drop, h]; simp
theorem drop_byte {s : ByteArray} {k : Nat} {c : UInt8} {r : List UInt8} (h : s.data.toList.drop k = c :: r) : ∃ hk : k < s.size, s[k] = c := by
  rcases Nat.lt_or_ge k s.size with hk | hk
  · rw [byte_at s k hk] at h
    exact ⟨hk, (List.cons.inj h).1⟩
  · rw [List.drop_of_length_le (by rw [← size_list]; exact hk)] at h; cases h
/-- What a round reads, for whatever table has the text. -/
structure Rnd (s : ByteArray) (k : Nat) (L : List (Int × Int)) (v1 : Int) (i : Nat) (v2 : Int) (j : Nat) (n : Nat) (X Y : Nat → Int) : Prop where
  lt : L.length < n
  x : v1 = X L.length
  c : ∃ h : i < s.size, s[i] = 58
  y : v2 = Y L.length
  last : n = L.length + 1 → j = s.size
  more : L.length + 1 < n → ∃ h : j < s.size, s[j] = 32 ∧ s.data.toList.drop (j + 1) = txS X Y (L.length + 1) (n - (L.length + 1))
theorem rnd_of {s : ByteArray} {k : Nat} {L : List (Int × Int)} (hA : AgK s k L) (hk : k < s.size) {v1 : Int} {i : Nat} (h1 : ∀ x r, s.data.toList.drop k = Lib.itoa x ++ r → near x → NoDig r → v1 = x ∧ i = k + (Lib.itoa x).length)
    {v2 : Int} {j : Nat} (h2 : ∀ x r, s.data.toList.drop (i + 1) = Lib.itoa x ++ r → near x → NoDig r → v2 = x ∧ j = i + 1 + (Lib.itoa x).length) {n : Nat} {X Y : Nat → Int} (hok : TabOK n X Y) (hx : s.data.toList = txL X Y n) : Rnd s k L v1 i v2 j n X Y := by
  obtain ⟨a1, a2, a3, a4⟩ := hA n X Y hok hx
  have hlt : L.length < n := by
    rcases Nat.lt_or_ge L.length n with h | h
    · exact h
    · have := a3 (by omega); omega
  have hd := a4 hlt
  obtain ⟨c, hc⟩ : ∃ c, n - L.length = c + 1 := ⟨n - L.length - 1, by omega⟩
  rw [hc, txS_step] at hd
  have hn := hok.near L.length hlt
  obtain ⟨e1, e2⟩ := h1 _ _ hd hn.1 (noDig_58 _)
  have hd2 := drop_more hd
  rw [← e2] at hd2
  obtain ⟨hi, hi2⟩ := drop_byte hd2
  have hd3 : s.data.toList.drop (i + 1) = Lib.itoa (Y L.length) ++ if c = 0 then [] else 32 :: txS X Y (L.length + 1) c := by
    rw [byte_at s i hi] at hd2
    exact (List.cons.inj hd2).2
  obtain ⟨e3, e4⟩ := h2 _ _ hd3 hn.2 (noDig_rest X Y _ c)
  have hd4 := drop_more hd3
  rw [← e4] at hd4
  refine ⟨hlt, e1, ⟨hi, hi2⟩, e3, fun h => ?_, fun h => ?_⟩
  · have : c = 0 := by omega
    rw [if_pos this] at hd4
    have h5 := congrArg List.length hd3
    rw [if_pos this, List.length_drop, ← size_list] at h5
    simp at h5
    have := itoa_pos (Y L.length)
    omega
  · have h0 : ¬ c = 0 := by omega
    rw [if_neg h0] at hd4
    obtain ⟨hj, hj2⟩ := drop_byte hd4
    refine ⟨hj, hj2, ?_⟩
    rw [byte_at s j hj] at hd4
    rw [(List.cons.inj hd4).2, show n - (L.length + 1) = c from by omega]
theorem agK_last {s : ByteArray} {k : Nat} {L : List (Int × Int)} {v1 v2 : Int} {i j : Nat} (hA : AgK s k L) (h : ∀ n X Y, TabOK n X Y → s.data.toList = txL X Y n → Rnd s k L v1 i v2 j n X Y) (hj : j = s.size) : AgK s (s.size + 1) (L ++ [(v1, v2)]) := fun n X Y hok hx => by
  have R := h n X Y hok hx
  have a1 := (hA n X Y hok hx).1
  have hn : n = L.length + 1 := by
    rcases Nat.lt_or_ge (L.length + 1) n with g | g
    · obtain ⟨h1, _⟩ := R.more g; omega
    · have := R.lt; omega
  refine ⟨?_, by rw [List.length_append]; simp; omega, fun _ => rfl, fun h => by rw [List.length_append] at h; simp at h; omega⟩
  rw [List.length_append, List.length_singleton, tl_succ, R.x, R.y, ← a1]
theorem agK_more {s : ByteArray} {k : Nat} {L : List (Int × Int)} {v1 v2 : Int} {i j : Nat} (hA : AgK s k L) (h : ∀ n X Y, TabOK n X Y → s.data.toList = txL X Y n → Rnd s k L v1 i v2 j n X Y) (hj : j < s.size) : AgK s (j + 1) (L ++ [(v1, v2)]) := fun n X Y hok hx => by
  have R := h n X Y hok hx
  have a1 := (hA n X Y hok hx).1
  have hn : L.length + 1 < n := by
    rcases Nat.lt_or_ge (L.length + 1) n with g | g
    · exact g
    · have := R.last (by have := R.lt; omega); omega
  obtain ⟨_, _, hd⟩ := R.more hn
  refine ⟨?_, by rw [List.length_append]; simp; omega, fun h => by rw [List.length_append] at h; simp at h; omega, fun _ => by rw [List.length_append]; exact hd⟩
  rw [List.length_append, List.length_singleton, tl_succ, R.x, R.y, ← a1]
theorem agK_end {s : ByteArray} {k : Nat} {L : List (Int × Int)} (hA : AgK s k L) (he : s.size ≤ k ∨ 100 < L.length) {n : Nat} {X Y : Nat → Int} (hok : TabOK n X Y) (hx : s.data.toList = txL X Y n) : TabOK L.length (kX L) (kY L) ∧ s.data.toList = txL (kX L) (kY L) L.length := by
  obtain ⟨a1, a2, a3, a4⟩ := hA n X Y hok hx
  have hn : L.length = n := by
    rcases Nat.lt_or_ge L.length n with g | g
    · have hd := a4 g
      rcases he with h | h
      · rw [List.drop_of_length_le (by rw [← size_list]; exact h)] at hd
        obtain ⟨c, hc⟩ : ∃ c, n - L.length = c + 1 := ⟨n - L.length - 1, by omega⟩
        rw [hc, txS_step] at hd
        have := congrArg List.length hd
        simp at this
      · have := hok.2.1; omega
    · omega
  subst hn
  have hk : ∀ k, k < L.length → kX L k = X k ∧ kY L k = Y k := fun k hk => by
    have := tl_at (X := X) (Y := Y) hk
    rw [← a1] at this
    exact this
  refine ⟨⟨hok.1, hok.2.1, fun k hk' => ?_⟩, ?_⟩
  · have := hok.2.2 k hk'
    unfold goodAt at this ⊢
    rw [(hk k hk').1, (hk k hk').2]
    refine ⟨this.1, this.2.1, fun h0 => ?_⟩
    rw [(hk (k - 1) (by omega)).1, (hk (k - 1) (by omega)).2]
    exact this.2.2 h0
  · rw [hx]; exact tx_congr (fun k hk' => ⟨(hk k hk').1.symm, (hk k hk').2.symm⟩)
/-- The knots that are owned. -/
def KMem (w wr : World) (u : Value) (N : Nat) (L : List (Int × Int)) : Prop := wr.ownsRow w.heap.size 49 2 u N (kc L) ∧ Below w.heap.size w wr
theorem KMem.call {w wr w' : World} {u : Value} {N : Nat} {L : List (Int × Int)} (h : KMem w wr u N L) (hb : Below wr.heap.size wr w') : KMem w w' u N L := ⟨own_below h.1 hb, below_step h.2 hb⟩
theorem KMem.app {w wr w' : World} {u v : Value} {N : Nat} {L : List (Int × Int)} {x y : Int} (h : KMem w wr u N L) {cs : Array Value} (hown : w'.ownsRow w.heap.size 49 2 v (N + 1) (kc L ++ [.int .i64 x, .int .i64 y])) (hg : (wr.alloc (.cells cs 49)).grownBy w' u.ownBlock) : KMem w w' v (N + 1) (L ++ [(x, y)]) :=
  ⟨by rw [kc_append]; exact hown, below_own (h.1.alloc _) (h.2.alloc h.2.size _) hg⟩
theorem KMem.form {w wr : World} {u : Value} {N : Nat} {L : List (Int × Int)} (h : KMem w wr u N L) : ∃ A cap, u = .slice A N cap := by
  rcases h.1.2 with ⟨hv, h0⟩ | ⟨g, cap, cur, hv, _⟩
  · exact ⟨none, 0, by rw [hv, h0]⟩
  · exact ⟨_, cap, hv⟩
theorem KMem.tab {w wr : World} {A : Option Addr} {cap N : Nat} {L : List (Int × Int)} (h : KMem w wr (.slice A N cap) N L) (hN : N = L.length) (hs : N ≤ 1000) : TabIn wr A N (kX L) (kY L) ∧ (1 ≤ N → ∃ g, A = some ⟨g, 0, none⟩ ∧ w.heap.size ≤ g ∧ TabAt wr g 0 N (kX L) (kY L)) := by
  rcases h.1.2 with ⟨hv, h0⟩ | ⟨g, cap', cur, hv, _⟩
  · exact ⟨⟨by omega, .inl h0⟩, fun h1 => by omega⟩
  · injection hv with e1 e2 e3
    subst e1
    subst e3
    have hown := h.1
    rw [hN] at hown
    have ht := tab_of_kc hown
    rw [← hN] at ht
    exact ⟨⟨by omega, .inr ⟨g, 0, rfl, ht⟩⟩, fun _ => ⟨g, rfl, (h.1.lt g rfl).1, ht⟩⟩
/-- What the reference's Parse answers. -/
def RParsePost (w : World) (s : ByteArray) (e : Ending) (w' : World) : Prop :=
  (∃ (n : Nat) (X Y : Nat → Int) (g cap : Nat), TabOK n X Y ∧ s.data.toList = txL X Y n ∧ e = .returned (.tuple #[.slice (some ⟨g, 0, none⟩) n cap, .bool true]) ∧ w.heap.size ≤ g ∧ TabAt w' g 0 n X Y ∧ Below w.heap.size w w') ∨
  ((∀ n X Y, TabOK n X Y → s.data.toList ≠ txL X Y n) ∧ e = .returned (.tuple #[.slice none 0 0, .bool false]) ∧ Below w.heap.size w w')
set_option maxRecDepth 100000 in
set_option maxHeartbeats 8000000 in
theorem rparse (s : ByteArray) (hs : s.size ≤ 100000) (w : World) : Calls Tryz.prog 7 #[.string s] w (RParsePost w s) := by
  have HS := Lib.hid hs
  obtain ⟨i0, hi0, hz0, hz1, hz2⟩ := info_parts1 info39
  have HI0 := Lib.hid hi0
  have HZ0 := Lib.hid hz0
  have HZ1 := Lib.hid hz1
  have HZ2 := Lib.hid hz2
  have hcap : s.size ≤ 100000 := hs
  clear hi0 hz0 hz1 hz2 hs
  go_enter Tryz.func7, Tryz.ntmps7
  go_wp2_with fail
  go_loopw [4, 5] (fun u v wr => ∃ (k N : Nat) (L : List (Int × Int)), v = .int .i64 k ∧ Hid (N = L.length) ∧ Hid (N ≤ 101) ∧ Hid (k ≤ s.size + 1) ∧ Hid (AgK s k L) ∧ Hid (KMem w wr u N L)) (fun _ v _ => s.size + 1 - (intOf v).toNat)
  case atStart => exact ⟨0, 0, [], rfl, rfl, Nat.zero_le _, Nat.zero_le _, agK_start s, World.ownsRow_nil _ _ _ _, Below.refl _ _⟩
  case round =>
    obtain ⟨k, N, L, rfl, HL, HL1, HK, HA, HM⟩ := hrel
    obtain ⟨A0, cap0, h8⟩ := HM.out.form
    subst h8
    by_cases hk : k < s.size
    case neg =>
      have T0 : decide ((k : Int) < (s.size : Int)) = false := decide_eq_false (by omega)
      have T0' : decide (k < s.size) = false := decide_eq_false hk
      have hk2 : s.size ≤ k := by omega
      have HEN := Lib.hid fun (n : Nat) (X Y : Nat → Int) (h1 : TabOK n X Y) h2 => agK_end HA.out (.inl hk2) h1 h2
      obtain ⟨ht, ht2⟩ := HM.out.tab HL.out (by have := HL1.out; omega)
      have SV := rvalid_any A0 N cap0 (kX L) (kY L) wr ht
      rw [← HL.out] at HEN
      by_cases hok : TabOK N (kX L) (kY L)
      · rw [tabB_true hok] at SV
        have SV := Lib.hid SV
        obtain ⟨g, rfl, hg, htg⟩ := ht2 hok.1
        have HTG := Lib.hid htg
        have HG := Lib.hid hg
        obtain ⟨q, hq⟩ : ∃ q : ByteArray, q = ⟨(txL (kX L) (kY L) N).toArray⟩ := ⟨_, rfl⟩
        have ST := Lib.hid fun w h => rtext_ok g 0 N cap0 (kX L) (kY L) w hok h
        rw [← hq] at ST
        have hgl := htg.1
        by_cases he : q = s
        · subst he
          have HOK := Lib.hid hok
          have HX : Hid (q.data.toList = txL (kX L) (kY L) N) := by show _ = _; rw [hq]
          clear hq hok ht ht2 hg htg hk hk2
          go_wp2_with (first
            | (go_at_call 10
               with_reducible refine (SV.out).mono ?_
               rintro e w8 ⟨rfl, hb8⟩
               have HB8 := Lib.hid hb8
               clear hb8)
            | (go_at_call 11
               with_reducible refine (ST.out _ ?_).mono ?_
               focus (exact HTG.out.below HB8.out hgl)
               rintro e w9 ⟨rfl, hb9⟩
               have HB9 := Lib.hid (below_step HB8.out hb9)
               clear hb9))
          go_ret2
          exact .inl ⟨N, kX L, kY L, g, cap0, HOK.out, HX.out, rfl, HG.out, HTG.out.below HB9.out hgl, below_step HM.out.2 HB9.out⟩
        · have HNO : Hid (∀ n X Y, TabOK n X Y → s.data.toList ≠ txL X Y n) := fun n X Y h1 h2 => he (by
            rw [hq, ← (HEN.out n X Y h1 h2).2])
          have u1 : ¬ q.toList = s.toList := fun h => he (bytes_ext h)
          have u2 : decide (q.toList = s.toList) = false := decide_eq_false u1
          have u3 : (q.toList == s.toList) = false := by simp [u1]
          clear hq hok he ht ht2 hg htg hk hk2
          go_wp2_with (first
            | (go_at_call 10
               with_reducible refine (SV.out).mono ?_
               rintro e w8 ⟨rfl, hb8⟩
               have HB8 := Lib.hid hb8
               clear hb8)
            | (go_at_call 11
               with_reducible refine (ST.out _ ?_).mono ?_
               focus (exact HTG.out.below HB8.out hgl)
               rintro e w9 ⟨rfl, hb9⟩
               have HB9 := Lib.hid (below_step HB8.out hb9)
               clear hb9))
          go_ret2
          exact .inr ⟨HNO.out, rfl, below_step HM.out.2 HB9.out⟩
      · rw [tabB_false hok] at SV
        have SV := Lib.hid SV
        have HNO : Hid (∀ n X Y, TabOK n X Y → s.data.toList ≠ txL X Y n) := fun n X Y h1 h2 => hok (HEN.out n X Y h1 h2).1
        clear hok ht ht2 hk hk2
        go_wp2_with (first
          | (go_at_call 10
             with_reducible refine (SV.out).mono ?_
             rintro e w8 ⟨rfl, hb8⟩
             have HB8 := Lib.hid hb8
             clear hb8))
        go_ret2
        exact .inr ⟨HNO.out, rfl, below_step HM.out.2 HB8.out⟩
    have T0 : decide ((k : Int) < (s.size : Int)) = true := decide_eq_true (by omega)
    have T0' : decide (k < s.size) = true := decide_eq_true hk
    by_cases hN : N ≤ 100
    case neg =>
      have T1 : decide ((N : Int) ≤ 100) = false := decide_eq_false (by omega)
      have T1' : decide (N ≤ 100) = false := decide_eq_false hN
      have hk2 : 100 < L.length := by have := HL.out; omega
      have HEN := Lib.hid fun (n : Nat) (X Y : Nat → Int) (h1 : TabOK n X Y) h2 => agK_end HA.out (.inr hk2) h1 h2
      obtain ⟨ht, ht2⟩ := HM.out.tab HL.out (by have := HL1.out; omega)
      have SV := rvalid_any A0 N cap0 (kX L) (kY L) wr ht
      rw [← HL.out] at HEN
      by_cases hok : TabOK N (kX L) (kY L)
      · rw [tabB_true hok] at SV
        have SV := Lib.hid SV
        obtain ⟨g, rfl, hg, htg⟩ := ht2 hok.1
        have HTG := Lib.hid htg
        have HG := Lib.hid hg
        obtain ⟨q, hq⟩ : ∃ q : ByteArray, q = ⟨(txL (kX L) (kY L) N).toArray⟩ := ⟨_, rfl⟩
        have ST := Lib.hid fun w h => rtext_ok g 0 N cap0 (kX L) (kY L) w hok h
        rw [← hq] at ST
        have hgl := htg.1
        by_cases he : q = s
        · subst he
          have HOK := Lib.hid hok
          have HX : Hid (q.data.toList = txL (kX L) (kY L) N) := by show _ = _; rw [hq]
          clear hq hok ht ht2 hg htg hk hk2 hN
          go_wp2_with (first
            | (go_at_call 10
               with_reducible refine (SV.out).mono ?_
               rintro e w8 ⟨rfl, hb8⟩
               have HB8 := Lib.hid hb8
               clear hb8)
            | (go_at_call 11
               with_reducible refine (ST.out _ ?_).mono ?_
               focus (exact HTG.out.below HB8.out hgl)
               rintro e w9 ⟨rfl, hb9⟩
               have HB9 := Lib.hid (below_step HB8.out hb9)
               clear hb9))
          go_ret2
          exact .inl ⟨N, kX L, kY L, g, cap0, HOK.out, HX.out, rfl, HG.out, HTG.out.below HB9.out hgl, below_step HM.out.2 HB9.out⟩
        · have HNO : Hid (∀ n X Y, TabOK n X Y → s.data.toList ≠ txL X Y n) := fun n X Y h1 h2 => he (by
            rw [hq, ← (HEN.out n X Y h1 h2).2])
          have u1 : ¬ q.toList = s.toList := fun h => he (bytes_ext h)
          have u2 : decide (q.toList = s.toList) = false := decide_eq_false u1
          have u3 : (q.toList == s.toList) = false := by simp [u1]
          clear hq hok he ht ht2 hg htg hk hk2 hN
          go_wp2_with (first
            | (go_at_call 10
               with_reducible refine (SV.out).mono ?_
               rintro e w8 ⟨rfl, hb8⟩
               have HB8 := Lib.hid hb8
               clear hb8)
            | (go_at_call 11
               with_reducible refine (ST.out _ ?_).mono ?_
               focus (exact HTG.out.below HB8.out hgl)
               rintro e w9 ⟨rfl, hb9⟩
               have HB9 := Lib.hid (below_step HB8.out hb9)
               clear hb9))
          go_ret2
          exact .inr ⟨HNO.out, rfl, below_step HM.out.2 HB9.out⟩
      · rw [tabB_false hok] at SV
        have SV := Lib.hid SV
        have HNO : Hid (∀ n X Y, TabOK n X Y → s.data.toList ≠ txL X Y n) := fun n X Y h1 h2 => hok (HEN.out n X Y h1 h2).1
        clear hok ht ht2 hk hk2 hN
        go_wp2_with (first
          | (go_at_call 10
             with_reducible refine (SV.out).mono ?_
             rintro e w8 ⟨rfl, hb8⟩
             have HB8 := Lib.hid hb8
             clear hb8))
        go_ret2
        exact .inr ⟨HNO.out, rfl, below_step HM.out.2 HB8.out⟩
    have T1 : decide ((N : Int) ≤ 100) = true := decide_eq_true (by omega)
    have T1' : decide (N ≤ 100) = true := decide_eq_true hN
    obtain ⟨v1, i, hi1, hi2, hi3, hi4, hi5⟩ := rnumT s hcap k (Nat.le_of_lt hk)
    have S1 := Lib.hid hi5
    have HI3 := Lib.hid hi3
    clear hi5 hi3
    by_cases hi : i < s.size
    case neg =>
      have T2 : decide ((s.size : Int) ≤ (i : Int)) = true := decide_eq_true (by omega)
      have T2' : decide (s.size ≤ i) = true := decide_eq_true (by omega)
      have HNO : Hid (∀ n X Y, TabOK n X Y → s.data.toList ≠ txL X Y n) := fun n X Y h1 h2 => by
        obtain ⟨v2, j, _, _, h3, _⟩ := rnumT s hcap (i + 1 - 1) (by omega)
        have a := (rnd_of HA.out hk HI3.out (v2 := if s.data.toList.drop (i + 1) = Lib.itoa 0 then 0 else 0) (j := 0) (fun x r hx => by
          rw [List.drop_of_length_le (by rw [← size_list]; omega)] at hx
          have := itoa_pos x
          have := congrArg List.length hx
          simp at this
          omega) h1 h2).c
        obtain ⟨h4, _⟩ := a
        exact hi h4
      clear hi hk hN hi1 hi2 hi4
      go_wp2_with (first
        | (go_at_call 22
           with_reducible refine (S1.out _).mono ?_
           clear S1
           rintro e w5 ⟨rfl, rfl⟩))
      go_ret2
      exact .inr ⟨HNO.out, rfl, HM.out.2⟩
    have T2 : decide ((s.size : Int) ≤ (i : Int)) = false := decide_eq_false (by omega)
    have T2' : decide (s.size ≤ i) = false := decide_eq_false (by omega)
    have q0 : (0 : Int) ≤ (i : Int) := by omega
    have q1 : (i : Int) < (s.size : Int) := by omega
    obtain ⟨i', hi'⟩ : ∃ z, z = i + 1 := ⟨_, rfl⟩
    have x1 : IntKind.i64.wrap ((i : Int) + 1) = (i' : Int) := by rw [IntKind.wrap_i64]; omega
    obtain ⟨v2, j, hj1, hj2, hj3, hj4, hj5⟩ := rnumT s hcap i' (by omega)
    have S2 := Lib.hid hj5
    rw [hi'] at hj3
    have HR := Lib.hid fun n X Y h1 h2 => rnd_of HA.out hk HI3.out hj3 (n := n) (X := X) (Y := Y) h1 h2
    clear hj5 hj3
    obtain ⟨c, hc⟩ : ∃ c : Nat, (s[i]'hi).toNat = c := ⟨_, rfl⟩
    by_cases hc58 : c = 58
    case neg =>
      have u1 : ((c : Int) == 58) = false := by simp <;> omega
      have u2 : decide (c = 58) = false := decide_eq_false hc58
      have HNO : Hid (∀ n X Y, TabOK n X Y → s.data.toList ≠ txL X Y n) := fun n X Y h1 h2 => by
        obtain ⟨h3, h4⟩ := (HR.out n X Y h1 h2).c
        exact hc58 (by rw [← hc, h4]; rfl)
      clear hk hN hi1 hi2 hi4 hj1 hj2 hj4 hi' hc58 x1
      go_wp2_with (first
        | (go_at_call 22
           with_reducible refine (S1.out _).mono ?_
           clear S1
           rintro e w5 ⟨rfl, rfl⟩))
      go_ret2
      exact .inr ⟨HNO.out, rfl, HM.out.2⟩
    have u1 : ((c : Int) == 58) = true := by simp <;> omega
    have u2 : decide (c = 58) = true := decide_eq_true hc58
    by_cases hj : j < s.size
    case neg =>
      have T3 : decide ((j : Int) < (s.size : Int)) = false := decide_eq_false (by omega)
      have T3' : decide (j < s.size) = false := decide_eq_false hj
      have hjs : j = s.size := by omega
      obtain ⟨k', hk'⟩ : ∃ z, z = j + 1 := ⟨_, rfl⟩
      have x2 : IntKind.i64.wrap ((j : Int) + 1) = (k' : Int) := by rw [IntKind.wrap_i64]; omega
      have HA2 : Hid (AgK s k' (L ++ [(v1, v2)])) := by
        show AgK _ _ _
        rw [hk', hjs]
        exact agK_last HA.out HR.out hjs
      have HK2 : Hid (k' ≤ s.size + 1) := by show k' ≤ s.size + 1; omega
      have HL2 : Hid (N + 1 = (L ++ [(v1, v2)]).length) := by show _ = _; rw [List.length_append, ← HL.out]; rfl
      have HL3 : Hid (N + 1 ≤ 101) := by show N + 1 ≤ 101; omega
      have HMS : Hid (s.size + 1 - (intOf (Value.int .i64 (k' : Int))).toNat < s.size + 1 - (intOf (Value.int .i64 (k : Int))).toNat) := by show _ < _; simp [intOf]; omega
      clear hk hi1 hi2 hi4 hj1 hj2 hj4 hi' hc58 hk' hj hjs HR HI3
      go_wp2_with (first
        | (go_at_call 22
           with_reducible refine (S1.out _).mono ?_
           clear S1
           rintro e w5 ⟨rfl, rfl⟩)
        | (go_at_call 22
           with_reducible refine (S2.out _).mono ?_
           clear S2
           rintro e w6 ⟨rfl, rfl⟩)
        | (at_builtin; refine wpList_append_own_at _ ?q1_1 (.tmp 42) (.tmp 46) 23 ?q1_2 (w.heap.size) 49 i0 (.agg #[.int .i64 0, .int .i64 0]) 2 16 Tryz.underlying23 HI0.out HZ0.out HZ1.out HZ2.out ?q1_3 ?q1_4 (.slice A0 N cap0) N (kc L) ?q1_5 (HM.out.1.alloc _) ⟨wr.heap.size, 0, none⟩ 1 1 [.int .i64 v1, .int .i64 v2] ?q1_7 (rfl) (World.news_of_block (cs := #[.int .i64 v1, .int .i64 v2]) (t := 49) (fr := (0, 0)) (heap_alloc_new _ _)) (by simp [Value.oneCell']) (h63_le (by omega)) (hby_le (by omega)) (base_alloc1 HM.out.2.size _) ?q1_14
           case q1_1 => exact rfl
           case q1_2 => exact rfl
           case q1_3 => exact rfl
           case q1_4 => decide
           case q1_5 => exact rfl
           case q1_7 => exact rfl
           intro u2 w7 hown2 hgrow2 hnil2 hat2
           have HM7 := Lib.hid (HM.out.app hown2 hgrow2)
           clear hown2 hgrow2 hnil2 hat2))
      go_roundw
      case rel => exact ⟨k', N + 1, L ++ [(v1, v2)], rfl, HL2, HL3, HK2, HA2, HM7⟩
      case measure => exact HMS.out
    have T3 : decide ((j : Int) < (s.size : Int)) = true := decide_eq_true (by omega)
    have T3' : decide (j < s.size) = true := decide_eq_true hj
    have r0 : (0 : Int) ≤ (j : Int) := by omega
    have r1 : (j : Int) < (s.size : Int) := by omega
    obtain ⟨d, hd⟩ : ∃ d : Nat, (s[j]'hj).toNat = d := ⟨_, rfl⟩
    by_cases hd32 : d = 32
    case neg =>
      have u3 : ((d : Int) == 32) = false := by simp <;> omega
      have u4 : decide (d = 32) = false := decide_eq_false hd32
      have HNO : Hid (∀ n X Y, TabOK n X Y → s.data.toList ≠ txL X Y n) := fun n X Y h1 h2 => by
        have R := HR.out n X Y h1 h2
        rcases Nat.lt_or_ge (L.length + 1) n with g | g
        · obtain ⟨h3, h4, _⟩ := R.more g
          exact hd32 (by rw [← hd, h4]; rfl)
        · have := R.last (by have := R.lt; omega); omega
      clear hk hi1 hi2 hi4 hj1 hj2 hj4 hi' hc58 hd32 HR HI3
      go_wp2_with (first
        | (go_at_call 22
           with_reducible refine (S1.out _).mono ?_
           clear S1
           rintro e w5 ⟨rfl, rfl⟩)
        | (go_at_call 22
           with_reducible refine (S2.out _).mono ?_
           clear S2
           rintro e w6 ⟨rfl, rfl⟩)
        | (at_builtin; refine wpList_append_own_at _ ?q2_1 (.tmp 42) (.tmp 46) 23 ?q2_2 (w.heap.size) 49 i0 (.agg #[.int .i64 0, .int .i64 0]) 2 16 Tryz.underlying23 HI0.out HZ0.out HZ1.out HZ2.out ?q2_3 ?q2_4 (.slice A0 N cap0) N (kc L) ?q2_5 (HM.out.1.alloc _) ⟨wr.heap.size, 0, none⟩ 1 1 [.int .i64 v1, .int .i64 v2] ?q2_7 (rfl) (World.news_of_block (cs := #[.int .i64 v1, .int .i64 v2]) (t := 49) (fr := (0, 0)) (heap_alloc_new _ _)) (by simp [Value.oneCell']) (h63_le (by omega)) (hby_le (by omega)) (base_alloc1 HM.out.2.size _) ?q2_14
           case q2_1 => exact rfl
           case q2_2 => exact rfl
           case q2_3 => exact rfl
           case q2_4 => decide
           case q2_5 => exact rfl
           case q2_7 => exact rfl
           intro u2 w7 hown2 hgrow2 hnil2 hat2
           have HM7 := Lib.hid (HM.out.app hown2 hgrow2)
           clear hown2 hgrow2 hnil2 hat2))
      go_ret2
      exact .inr ⟨HNO.out, rfl, HM7.out.2⟩
    have u3 : ((d : Int) == 32) = true := by simp <;> omega
    have u4 : decide (d = 32) = true := decide_eq_true hd32
    obtain ⟨k', hk'⟩ : ∃ z, z = j + 1 := ⟨_, rfl⟩
    have x2 : IntKind.i64.wrap ((j : Int) + 1) = (k' : Int) := by rw [IntKind.wrap_i64]; omega
    have HA2 : Hid (AgK s k' (L ++ [(v1, v2)])) := by
      show AgK _ _ _
      rw [hk']
      exact agK_more HA.out HR.out hj
    have HK2 : Hid (k' ≤ s.size + 1) := by show k' ≤ s.size + 1; omega
    have HL2 : Hid (N + 1 = (L ++ [(v1, v2)]).length) := by show _ = _; rw [List.length_append, ← HL.out]; rfl
    have HL3 : Hid (N + 1 ≤ 101) := by show N + 1 ≤ 101; omega
    have HMS : Hid (s.size + 1 - (intOf (Value.int .i64 (k' : Int))).toNat < s.size + 1 - (intOf (Value.int .i64 (k : Int))).toNat) := by show _ < _; simp [intOf]; omega
    clear hk hi1 hi2 hi4 hj1 hj2 hj4 hi' hc58 hd32 hk' HR HI3
    go_wp2_with (first
      | (go_at_call 22
         with_reducible refine (S1.out _).mono ?_
         clear S1
         rintro e w5 ⟨rfl, rfl⟩)
      | (go_at_call 22
         with_reducible refine (S2.out _).mono ?_
         clear S2
         rintro e w6 ⟨rfl, rfl⟩)
      | (at_builtin; refine wpList_append_own_at _ ?q3_1 (.tmp 42) (.tmp 46) 23 ?q3_2 (w.heap.size) 49 i0 (.agg #[.int .i64 0, .int .i64 0]) 2 16 Tryz.underlying23 HI0.out HZ0.out HZ1.out HZ2.out ?q3_3 ?q3_4 (.slice A0 N cap0) N (kc L) ?q3_5 (HM.out.1.alloc _) ⟨wr.heap.size, 0, none⟩ 1 1 [.int .i64 v1, .int .i64 v2] ?q3_7 (rfl) (World.news_of_block (cs := #[.int .i64 v1, .int .i64 v2]) (t := 49) (fr := (0, 0)) (heap_alloc_new _ _)) (by simp [Value.oneCell']) (h63_le (by omega)) (hby_le (by omega)) (base_alloc1 HM.out.2.size _) ?q3_14
         case q3_1 => exact rfl
         case q3_2 => exact rfl
         case q3_3 => exact rfl
         case q3_4 => decide
         case q3_5 => exact rfl
         case q3_7 => exact rfl
         intro u2 w7 hown2 hgrow2 hnil2 hat2
         have HM7 := Lib.hid (HM.out.app hown2 hgrow2)
         clear hown2 hgrow2 hnil2 hat2))
    go_roundw
    case rel => exact ⟨k', N + 1, L ++ [(v1, v2)], rfl, HL2, HL3, HK2, HA2, HM7⟩
    case measure => exact HMS.out
end Go.Proofs.YtapfmbnppeonkaaGreatDoor

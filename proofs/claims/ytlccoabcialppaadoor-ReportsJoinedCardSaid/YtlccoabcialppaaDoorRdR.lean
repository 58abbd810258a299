/- The reference's Read. -/
import Derived.Test.YtlccoabcialppaaDoorRd
import Derived.Test.YtlccoabcialppaaDoorFmt
namespace Go.Proofs.YtlccoabcialppaaDoor
open Go.RowKit
set_option linter.unusedVariables false
set_option linter.unusedSimpArgs false

/-- What the loop over the digits keeps. -/
def NInv (T : List UInt8) (i n d : Nat) : Prop := d ≤ 18 ∧ n < 10 ^ d ∧ ((i = 0 ∧ n = 0 ∧ d = 0) ∨ (0 < i ∧ dig (unsg T) 0 0 = dig (T.drop i) n d))
theorem byte_at (s : ByteArray) (k : Nat) (h : k < s.size) : s.data.toList.drop k = s[k] :: s.data.toList.drop (k + 1) := by
  have hl : k < s.data.toList.length := by rw [← size_list]; exact h
  rw [List.drop_eq_getElem_cons hl]
  congr 1
theorem NInv.start (T : List UInt8) : NInv T 0 0 0 := ⟨by omega, by decide, .inl ⟨rfl, rfl, rfl⟩⟩
/-- Where the loop looks at a byte that it does not pass over. -/
theorem NInv.here {s : ByteArray} {i n d : Nat} (h : NInv s.data.toList i n d) (hi : i < s.size) (hm : i = 0 → s[i] ≠ 45) : dig (unsg s.data.toList) 0 0 = dig (s[i] :: s.data.toList.drop (i + 1)) n d := by
  rcases h.2.2 with ⟨rfl, rfl, rfl⟩ | ⟨h0, e⟩
  · have e := byte_at s 0 hi
    rw [List.drop_zero] at e
    rw [unsg_not (by rw [e]; intro h; exact hm rfl (Option.some.inj h)), e]
    simp
  · rw [e, byte_at s i hi]
theorem NInv.minus {s : ByteArray} {n d : Nat} (h : NInv s.data.toList 0 n d) (hi : 0 < s.size) (hm : s[0] = 45) : NInv s.data.toList 1 n d := by
  refine ⟨h.1, h.2.1, .inr ⟨by omega, ?_⟩⟩
  rcases h.2.2 with ⟨_, rfl, rfl⟩ | ⟨h0, e⟩
  · have e := byte_at s 0 hi
    rw [List.drop_zero, hm] at e
    rw [e, unsg_minus]
    simp
  · omega
theorem NInv.bad {s : ByteArray} {i n d : Nat} (h : NInv s.data.toList i n d) (hi : i < s.size) (hm : i = 0 → s[i] ≠ 45) (hb : s[i].toNat < 48 ∨ 57 < s[i].toNat ∨ d = 18) : refnum s.data.toList = none := by
  unfold refnum
  rw [h.here hi hm]
  simp only [dig, if_pos hb]
theorem NInv.good {s : ByteArray} {i n d : Nat} (h : NInv s.data.toList i n d) (hi : i < s.size) (hm : i = 0 → s[i] ≠ 45) (hb : ¬ (s[i].toNat < 48 ∨ 57 < s[i].toNat ∨ d = 18)) : NInv s.data.toList (i + 1) (10 * n + (s[i].toNat - 48)) (d + 1) := by
  refine ⟨by have := h.1; omega, ?_, .inr ⟨by omega, ?_⟩⟩
  · have := h.2.1
    rw [Nat.pow_succ]; omega
  · rw [h.here hi hm]
    simp only [dig, if_neg hb]
theorem NInv.fin {s : ByteArray} {n d : Nat} (h : NInv s.data.toList s.size n d) : dig (unsg s.data.toList) 0 0 = some (n, d) := by
  rcases h.2.2 with ⟨h0, rfl, rfl⟩ | ⟨h0, e⟩
  · have : s.data.toList = [] := List.eq_nil_of_length_eq_zero (by rw [← size_list]; exact h0)
    rw [this]; rfl
  · rw [e, List.drop_of_length_le (by rw [← size_list]; exact Nat.le_refl _)]
    rfl
theorem NInv.lt {T : List UInt8} {i n d : Nat} (h : NInv T i n d) : n < 1000000000000000000 := by
  have := Nat.pow_le_pow_right (n := 10) (by decide) h.1
  rw [pow18] at this
  have := h.2.1
  omega
/-- What the text after the last space gives. -/
theorem rd_none {s : ByteArray} {k : Nat} (h5 : s.size ≤ 500) (k1 : 1 ≤ k) (k2 : k < s.size) (hk : Lib.lastIndexByte s 32 = (k : Int)) (h : refnum (s.extract (k + 1) s.size).data.toList = none) : RdIs s ByteArray.empty 0 7 :=
  ⟨.inr (.inr ⟨h5, k, k1, k2, hk, .inr ⟨fun v hv => (refnum_none _).1 h ⟨v, hv⟩, rfl, rfl, rfl⟩⟩)⟩
theorem rd_some {s : ByteArray} {k : Nat} {v : Int} (h5 : s.size ≤ 500) (k1 : 1 ≤ k) (k2 : k < s.size) (hk : Lib.lastIndexByte s 32 = (k : Int)) (h : refnum (s.extract (k + 1) s.size).data.toList = some v) : RdIs s (s.extract 0 k) v 0 :=
  ⟨.inr (.inr ⟨h5, k, k1, k2, hk, .inl ⟨⟨v, (refnum_iff _ _).1 h, rfl⟩, rfl, rfl⟩⟩)⟩
theorem ref_zero {T : List UInt8} {n : Nat} (h : dig (unsg T) 0 0 = some (n, 0)) : refnum T = none := by unfold refnum; rw [h]; rfl
theorem ref_ne {T : List UInt8} {n d : Nat} (h : dig (unsg T) 0 0 = some (n, d)) (hd : d ≠ 0) (hne : Lib.itoa (sgn T n) ≠ T) : refnum T = none := by
  unfold refnum; rw [h]
  show (if d = 0 then none else if _ then _ else none) = none
  rw [if_neg hd, if_neg hne]
theorem ref_eq {T : List UInt8} {n d : Nat} (h : dig (unsg T) 0 0 = some (n, d)) (hd : d ≠ 0) (he : Lib.itoa (sgn T n) = T) : refnum T = some (sgn T n) := by
  unfold refnum; rw [h]
  show (if d = 0 then none else if _ then some _ else none) = _
  rw [if_neg hd, if_pos he]
def RdPost (s : ByteArray) (w : World) (e' : Ending) (w' : World) : Prop := ∃ (l : ByteArray) (n e : Int), RdIs s l n e ∧ e' = .returned (.tuple #[.string l, .int .i64 n, .int .i64 e]) ∧ Below w.heap.size w w'
theorem data_at (s : ByteArray) (k : Nat) (h : k < s.size) : (s.data[k]!).toNat = (s[k]'h).toNat := by
  rw [getElem!_pos s.data k h]; rfl
set_option maxRecDepth 100000 in
set_option maxHeartbeats 4000000 in
theorem rread (s : ByteArray) (hs : s.size ≤ 1000) (w : World) : Calls Tryd.prog 9 #[.string s] w (RdPost s w) := by
  by_cases h5 : 500 < s.size
  · have HR : Hid (RdIs s ByteArray.empty 0 4) := ⟨.inl ⟨h5, rfl, rfl, rfl⟩⟩
    have t1 : decide ((500 : Int) < (s.size : Int)) = true := decide_eq_true (by omega)
    have t2 : decide (500 < s.size) = true := decide_eq_true h5
    clear h5 hs
    go_enter Tryd.func9, Tryd.ntmps9
    go_wp2_with fail
    go_ret3
    exact ⟨_, _, _, HR.out, rfl, by (repeat' (first | assumption | exact Below.refl _ _ | exact Below.size (by assumption) | (refine Below.setCell ?_ ?_ _) | (refine Below.alloc ?_ ?_ _) | (refine Below.drew ?_) | (refine below_drewN ?_ _) | (refine Below.trans ?_ (Below.mono ‹Below _ _ _› ?_)) | omega | (simp; done) | (simp; omega) | (simp at *; omega)))⟩
  · have t1 : decide ((500 : Int) < (s.size : Int)) = false := decide_eq_false (by omega)
    have t2 : decide (500 < s.size) = false := decide_eq_false h5
    have H5 : Hid (s.size ≤ 500) := by show s.size ≤ 500; omega
    obtain ⟨K0, hK0⟩ : ∃ z, z = (s.size : Int) - 1 := ⟨_, rfl⟩
    have e0 : IntKind.i64.wrap ((s.size : Int) - 1) = K0 := by rw [IntKind.wrap_i64]; omega
    have HK0 := Lib.hid hK0
    clear h5 hs hK0
    go_enter Tryd.func9, Tryd.ntmps9
    go_wp2_with fail
    go_loop [5] (fun u => ∃ (j : Nat) (K : Int), Hid (j ≤ s.size) ∧ Hid (K = (j : Int) - 1) ∧ Hid (Lib.lastIndexByte s 32 = Lib.lastIdx s 32 j) ∧ u = .int .i64 K) (fun u => (intOf u + 1).toNat)
    case atStart => exact ⟨s.size, K0, Nat.le_refl _, HK0.out, rfl, rfl⟩
    case round =>
      obtain ⟨j, K, Hj, HK, HL, rfl⟩ := hrel
      have hbj := H5.out
      cases j with
      | zero =>
        have hK := HK.out
        have t3 : decide ((0 : Int) ≤ K) = false := decide_eq_false (by omega)
        have t4 : decide (K < 1) = true := decide_eq_true (by omega)
        have HR : Hid (RdIs s ByteArray.empty 0 7) := ⟨.inr (.inl ⟨H5.out, by rw [HL.out]; show (-1 : Int) < 1; decide, rfl, rfl, rfl⟩)⟩
        clear hK hbj
        go_wp2_with fail
        go_ret3
        exact ⟨_, _, _, HR.out, rfl, by (repeat' (first | assumption | exact Below.refl _ _ | exact Below.size (by assumption) | (refine Below.setCell ?_ ?_ _) | (refine Below.alloc ?_ ?_ _) | (refine Below.drew ?_) | (refine below_drewN ?_ _) | (refine Below.trans ?_ (Below.mono ‹Below _ _ _› ?_)) | omega | (simp; done) | (simp; omega) | (simp at *; omega)))⟩
      | succ k =>
        obtain rfl : K = (k : Int) := by have := HK.out; omega
        have k2 : k < s.size := Hj.out
        have t3 : decide ((0 : Int) ≤ (k : Int)) = true := decide_eq_true (by omega)
        have t3a : (0 : Int) ≤ (k : Int) := by omega
        have t3b : (k : Int) < (s.size : Int) := by omega
        obtain ⟨c, hc⟩ : ∃ c : Nat, (s[k]'k2).toNat = c := ⟨_, rfl⟩
        by_cases h32 : c = 32
        · have hk : Lib.lastIndexByte s 32 = (k : Int) := by rw [HL.out]; exact Lib.lastIdx_hit s 32 k (by rw [data_at s k k2, hc, h32]; rfl)
          have u1 : ((c : Int) == 32) = true := by simp <;> omega
          have u2 : decide (c = 32) = true := decide_eq_true h32
          by_cases k1 : k < 1
          · have t4 : decide ((k : Int) < 1) = true := decide_eq_true (by omega)
            have HR : Hid (RdIs s ByteArray.empty 0 7) := ⟨.inr (.inl ⟨H5.out, by rw [hk]; omega, rfl, rfl, rfl⟩)⟩
            clear hbj hk k1
            go_wp2_with fail
            go_ret3
            exact ⟨_, _, _, HR.out, rfl, by (repeat' (first | assumption | exact Below.refl _ _ | exact Below.size (by assumption) | (refine Below.setCell ?_ ?_ _) | (refine Below.alloc ?_ ?_ _) | (refine Below.drew ?_) | (refine below_drewN ?_ _) | (refine Below.trans ?_ (Below.mono ‹Below _ _ _› ?_)) | omega | (simp; done) | (simp; omega) | (simp at *; omega)))⟩
          · have t4 : decide ((k : Int) < 1) = false := decide_eq_false (by omega)
            obtain ⟨kk, hkk⟩ : ∃ z, z = k + 1 := ⟨_, rfl⟩
            obtain ⟨last, hl⟩ : ∃ z, z = s.extract kk s.size := ⟨_, rfl⟩
            have hls : last.size ≤ 500 := by rw [hl, ext_size _ _ _ (Nat.le_refl _)]; omega
            have HLS := Lib.hid hls
            have t5 : IntKind.i64.wrap ((k : Int) + 1) = (kk : Int) := by rw [IntKind.wrap_i64]; omega
            have t6 : kk ≤ s.size := by omega
            have t6' : (kk : Int) ≤ (s.size : Int) := by omega
            have t7 : k ≤ s.size := by omega
            have t8 : (k : Int) ≤ (s.size : Int) := by omega
            have he : s.extract kk s.size = last := hl.symm
            have HKK := Lib.hid hkk
            have HS5 : Hid (s.size ≤ 500 ∧ 1 ≤ k ∧ k < s.size ∧ Lib.lastIndexByte s 32 = (k : Int)) := ⟨H5.out, by omega, k2, hk⟩
            clear hbj hk k1 hl hkk
            go_wp2_with fail
            go_loop [7, 8, 9] (fun a b e => ∃ n d i : Nat, Hid (i ≤ last.size) ∧ Hid (NInv last.data.toList i n d) ∧ a = .int .i64 n ∧ b = .int .i64 d ∧ e = .int .i64 i) (fun _ _ e => last.size - (intOf e).toNat)
            case atStart => exact ⟨0, 0, 0, Nat.zero_le _, NInv.start _, rfl, rfl, rfl⟩
            case round =>
              obtain ⟨n, d, i, Hi, HI, rfl, rfl, rfl⟩ := hrel
              by_cases hlt : i < last.size
              · have T0 : decide ((i : Int) < (last.size : Int)) = true := decide_eq_true (by omega)
                have T0' : decide (i < last.size) = true := decide_eq_true hlt
                obtain ⟨i', hi'⟩ : ∃ z, z = i + 1 := ⟨_, rfl⟩
                have x0 : IntKind.i64.wrap ((i : Int) + 1) = (i' : Int) := by rw [IntKind.wrap_i64]; omega
                have HI' : Hid (i' ≤ last.size) := by show i' ≤ last.size; omega
                have HMS : Hid (last.size - (intOf (Value.int .i64 (i' : Int))).toNat < last.size - (intOf (Value.int .i64 (i : Int))).toNat) := by show _ < _; simp [intOf]; omega
                obtain ⟨c, hc⟩ : ∃ c : Nat, (last[i]'hlt).toNat = c := ⟨_, rfl⟩
                have hc255 : c < 256 := by rw [← hc]; exact (last[i]'hlt).toNat_lt
                by_cases hm : i = 0 ∧ c = 45
                · obtain ⟨hi0, hc45⟩ := hm
                  have t1 : ((i : Int) == 0) = true := by simp <;> omega
                  have t1' : decide (i = 0) = true := decide_eq_true hi0
                  have t2 : ((c : Int) == 45) = true := by simp <;> omega
                  have t2' : decide (c = 45) = true := decide_eq_true hc45
                  have HI2 : Hid (NInv last.data.toList i' n d) := by
                    subst hi0
                    rw [hi']
                    exact HI.out.minus hlt (UInt8.toNat_inj.1 (by rw [hc, hc45]; rfl))
                  clear hi' hi0 hc45
                  go_wp2_with fail
                  go_round
                  case rel => exact ⟨n, d, i', HI', HI2, rfl, rfl, rfl⟩
                  case measure => exact HMS.out
                · have hmm : i = 0 → last[i] ≠ 45 := fun h0 h45 => hm ⟨h0, by rw [← hc, h45]; rfl⟩
                  have tt : ((i : Int) == 0) = false ∨ (((i : Int) == 0) = true ∧ ((c : Int) == 45) = false) := by
                    by_cases h0 : i = 0
                    · right
                      exact ⟨by simp <;> omega, by have : ¬ c = 45 := fun h => hm ⟨h0, h⟩; simp <;> omega⟩
                    · left; simp <;> omega
                  by_cases hbad : c < 48 ∨ 57 < c ∨ d = 18
                  · have HR : Hid (RdIs s ByteArray.empty 0 7) := rd_none HS5.out.1 HS5.out.2.1 HS5.out.2.2.1 HS5.out.2.2.2 (by rw [← HKK.out, he]; exact HI.out.bad hlt hmm (by rw [hc]; exact hbad))
                    clear hmm hm hi'
                    by_cases b1 : c < 48
                    · have q1 : decide ((c : Int) < 48) = true := decide_eq_true (by omega)
                      have q1' : decide (c < 48) = true := decide_eq_true b1
                      clear hbad b1 hc255
                      rcases tt with t1 | ⟨t1, t2⟩
                      · go_wp2_with fail
                        go_ret3
                        exact ⟨_, _, _, HR.out, rfl, by (repeat' (first | assumption | exact Below.refl _ _ | exact Below.size (by assumption) | (refine Below.setCell ?_ ?_ _) | (refine Below.alloc ?_ ?_ _) | (refine Below.drew ?_) | (refine below_drewN ?_ _) | (refine Below.trans ?_ (Below.mono ‹Below _ _ _› ?_)) | omega | (simp; done) | (simp; omega) | (simp at *; omega)))⟩
                      · go_wp2_with fail
                        go_ret3
                        exact ⟨_, _, _, HR.out, rfl, by (repeat' (first | assumption | exact Below.refl _ _ | exact Below.size (by assumption) | (refine Below.setCell ?_ ?_ _) | (refine Below.alloc ?_ ?_ _) | (refine Below.drew ?_) | (refine below_drewN ?_ _) | (refine Below.trans ?_ (Below.mono ‹Below _ _ _› ?_)) | omega | (simp; done) | (simp; omega) | (simp at *; omega)))⟩
                    · have q1 : decide ((c : Int) < 48) = false := decide_eq_false (by omega)
                      have q1' : decide (c < 48) = false := decide_eq_false b1
                      by_cases b2 : 57 < c
                      · have q2 : decide ((57 : Int) < (c : Int)) = true := decide_eq_true (by omega)
                        have q2' : decide (57 < c) = true := decide_eq_true b2
                        clear hbad b1 b2 hc255
                        rcases tt with t1 | ⟨t1, t2⟩
                        · go_wp2_with fail
                          go_ret3
                          exact ⟨_, _, _, HR.out, rfl, by (repeat' (first | assumption | exact Below.refl _ _ | exact Below.size (by assumption) | (refine Below.setCell ?_ ?_ _) | (refine Below.alloc ?_ ?_ _) | (refine Below.drew ?_) | (refine below_drewN ?_ _) | (refine Below.trans ?_ (Below.mono ‹Below _ _ _› ?_)) | omega | (simp; done) | (simp; omega) | (simp at *; omega)))⟩
                        · go_wp2_with fail
                          go_ret3
                          exact ⟨_, _, _, HR.out, rfl, by (repeat' (first | assumption | exact Below.refl _ _ | exact Below.size (by assumption) | (refine Below.setCell ?_ ?_ _) | (refine Below.alloc ?_ ?_ _) | (refine Below.drew ?_) | (refine below_drewN ?_ _) | (refine Below.trans ?_ (Below.mono ‹Below _ _ _› ?_)) | omega | (simp; done) | (simp; omega) | (simp at *; omega)))⟩
                      · have q2 : decide ((57 : Int) < (c : Int)) = false := decide_eq_false (by omega)
                        have q2' : decide (57 < c) = false := decide_eq_false b2
                        have q3 : ((d : Int) == 18) = true := by simp <;> omega
                        have q3' : decide (d = 18) = true := decide_eq_true (by omega)
                        clear hbad b1 b2 hc255
                        rcases tt with t1 | ⟨t1, t2⟩
                        · go_wp2_with fail
                          go_ret3
                          exact ⟨_, _, _, HR.out, rfl, by (repeat' (first | assumption | exact Below.refl _ _ | exact Below.size (by assumption) | (refine Below.setCell ?_ ?_ _) | (refine Below.alloc ?_ ?_ _) | (refine Below.drew ?_) | (refine below_drewN ?_ _) | (refine Below.trans ?_ (Below.mono ‹Below _ _ _› ?_)) | omega | (simp; done) | (simp; omega) | (simp at *; omega)))⟩
                        · go_wp2_with fail
                          go_ret3
                          exact ⟨_, _, _, HR.out, rfl, by (repeat' (first | assumption | exact Below.refl _ _ | exact Below.size (by assumption) | (refine Below.setCell ?_ ?_ _) | (refine Below.alloc ?_ ?_ _) | (refine Below.drew ?_) | (refine below_drewN ?_ _) | (refine Below.trans ?_ (Below.mono ‹Below _ _ _› ?_)) | omega | (simp; done) | (simp; omega) | (simp at *; omega)))⟩
                  · have HI2 : Hid (NInv last.data.toList i' (10 * n + (c - 48)) (d + 1)) := by
                      rw [hi', ← hc]
                      exact HI.out.good hlt hmm (by rw [hc]; exact hbad)
                    have q1 : decide ((c : Int) < 48) = false := decide_eq_false (by omega)
                    have q1' : decide (c < 48) = false := decide_eq_false (by omega)
                    have q2 : decide ((57 : Int) < (c : Int)) = false := decide_eq_false (by omega)
                    have q2' : decide (57 < c) = false := decide_eq_false (by omega)
                    have q3 : ((d : Int) == 18) = false := by simp <;> omega
                    have q3' : decide (d = 18) = false := decide_eq_false (by omega)
                    have bl := HI.out.lt
                    have bl2 := HI2.out.lt
                    have bd := HI.out.1
                    obtain ⟨n', hn'⟩ : ∃ z, z = 10 * n + (c - 48) := ⟨_, rfl⟩
                    obtain ⟨d', hd'⟩ : ∃ z, z = d + 1 := ⟨_, rfl⟩
                    obtain ⟨g, hg⟩ : ∃ z, z = c - 48 := ⟨_, rfl⟩
                    obtain ⟨p, hp⟩ : ∃ z, z = 10 * n := ⟨_, rfl⟩
                    rw [← hn', ← hd'] at HI2
                    have y1 : IntKind.u8.wrap ((c : Int) - 48) = (g : Int) := by unfold IntKind.wrap; simp [IntKind.bits, IntKind.signed]; omega
                    have y2 : IntKind.i64.wrap (g : Int) = (g : Int) := by rw [IntKind.wrap_i64]; omega
                    have y3 : IntKind.i64.wrap (10 * (n : Int)) = (p : Int) := by rw [IntKind.wrap_i64]; omega
                    have y4 : IntKind.i64.wrap ((p : Int) + (g : Int)) = (n' : Int) := by rw [IntKind.wrap_i64]; omega
                    have y5 : IntKind.i64.wrap ((d : Int) + 1) = (d' : Int) := by rw [IntKind.wrap_i64]; omega
                    clear hmm hm hi' hbad hc255 bl bl2 bd hn' hd' hg hp
                    rcases tt with t1 | ⟨t1, t2⟩
                    · go_wp2_with fail
                      go_round
                      case rel => exact ⟨n', d', i', HI', HI2, rfl, rfl, rfl⟩
                      case measure => exact HMS.out
                    · go_wp2_with fail
                      go_round
                      case rel => exact ⟨n', d', i', HI', HI2, rfl, rfl, rfl⟩
                      case measure => exact HMS.out
              · have T0 : decide ((i : Int) < (last.size : Int)) = false := decide_eq_false (by omega)
                have T0' : decide (i < last.size) = false := decide_eq_false hlt
                have hie : i = last.size := by have := Hi.out; omega
                rw [hie] at HI
                have hfin := HI.out.fin
                clear hlt hie
                by_cases hd : d = 0
                · have HR : Hid (RdIs s ByteArray.empty 0 7) := rd_none HS5.out.1 HS5.out.2.1 HS5.out.2.2.1 HS5.out.2.2.2 (by rw [← HKK.out, he]; exact ref_zero (n := n) (by rw [hd] at hfin; exact hfin))
                  have q0 : ((d : Int) == 0) = true := by simp <;> omega
                  have q0' : decide (d = 0) = true := decide_eq_true hd
                  clear hfin hd
                  go_wp2_with fail
                  go_ret3
                  exact ⟨_, _, _, HR.out, rfl, by (repeat' (first | assumption | exact Below.refl _ _ | exact Below.size (by assumption) | (refine Below.setCell ?_ ?_ _) | (refine Below.alloc ?_ ?_ _) | (refine Below.drew ?_) | (refine below_drewN ?_ _) | (refine Below.trans ?_ (Below.mono ‹Below _ _ _› ?_)) | omega | (simp; done) | (simp; omega) | (simp at *; omega)))⟩
                · have q0 : ((d : Int) == 0) = false := by simp <;> omega
                  have q0' : decide (d = 0) = false := decide_eq_false hd
                  have h0 : 0 < last.size := by
                    apply Classical.byContradiction
                    intro hz
                    have : last.data.toList = [] := List.eq_nil_of_length_eq_zero (by rw [← size_list]; omega)
                    rw [this] at hfin
                    have h2 : d = 0 := (Prod.mk.inj (Option.some.inj hfin)).2.symm
                    exact hd h2
                  have h0i : (0 : Int) < (last.size : Int) := by omega
                  obtain ⟨c, hc⟩ : ∃ c : Nat, (last[0]'h0).toNat = c := ⟨_, rfl⟩
                  by_cases h45 : c = 45
                  · have t2 : ((c : Int) == 45) = true := by simp <;> omega
                    have t2' : decide (c = 45) = true := decide_eq_true h45
                    have bl := HI.out.lt
                    have S3 := fun w => rnum55 (-(n : Int)) (by omega) (by omega) w
                    obtain ⟨x, hx⟩ : ∃ x : ByteArray, x = ⟨(Lib.itoa (-(n : Int))).toArray⟩ := ⟨_, rfl⟩
                    rw [← hx] at S3
                    have S3 := Lib.hid S3
                    have hsg : sgn last.data.toList n = -(n : Int) := by have e := byte_at last 0 h0; rw [List.drop_zero, UInt8.toNat_inj.1 (show (last[0]).toNat = (45 : UInt8).toNat by rw [hc, h45]; rfl)] at e; rw [e, sgn_minus]
                    obtain ⟨z, hz⟩ : ∃ z : Int, z = -(n : Int) := ⟨_, rfl⟩
                    have e9 : IntKind.i64.wrap (0 - (n : Int)) = -(n : Int) := by rw [IntKind.wrap_i64]; omega
                    have e9' : IntKind.i64.wrap (-(n : Int)) = -(n : Int) := by rw [IntKind.wrap_i64]; omega
                    by_cases hxl : x = last
                    · have hcan : Lib.itoa (sgn last.data.toList n) = last.data.toList := by rw [hsg, ← hxl, hx]
                      have HR : Hid (RdIs s (s.extract 0 k) (-(n : Int)) 0) := by
                        have h := rd_some HS5.out.1 HS5.out.2.1 HS5.out.2.2.1 HS5.out.2.2.2 (by rw [← HKK.out, he]; exact ref_eq hfin hd hcan)
                        rw [hsg] at h
                        exact h
                      rw [hxl] at S3
                      clear bl hfin hcan hsg hx hxl hz hd
                      go_wp2_with (first | (go_at_call 22; (with_reducible refine (S3.out _).mono ?_); rintro e w2 ⟨rfl, hb2⟩; obtain ⟨hc2, hf2⟩ := bcell hb2; have hz2 := hb2.size; (try simp at hz2); (try simp only [heap_drew, World.heap_drewN] at hz2); (try simp only [heap_drew, World.heap_drewN] at hc2); (try simp only [heap_drew, World.heap_drewN] at hf2); (try have hs1 := Nat.lt_of_succ_le hz2); (try have hs2 := Nat.lt_of_succ_lt hs1); (try have y0 : w.heap.size < w2.heap.size := by omega); (try have y1 : w.heap.size + 1 < w2.heap.size := by omega); (try have y2 : w.heap.size + 2 < w2.heap.size := by omega)))
                      go_ret3
                      exact ⟨_, _, _, HR.out, by simp [*], by (repeat' (first | assumption | exact Below.refl _ _ | exact Below.size (by assumption) | (refine Below.setCell ?_ ?_ _) | (refine Below.alloc ?_ ?_ _) | (refine Below.drew ?_) | (refine below_drewN ?_ _) | (refine Below.trans ?_ (Below.mono ‹Below _ _ _› ?_)) | omega | (simp; done) | (simp; omega) | (simp at *; omega)))⟩
                    · have u1 : ¬ x.toList = last.toList := fun h => hxl (bytes_ext h)
                      have u2 : decide (x.toList = last.toList) = false := decide_eq_false u1
                      have u3 : (x.toList == last.toList) = false := beq_eq_false_iff_ne.2 u1
                      have HR : Hid (RdIs s ByteArray.empty 0 7) := rd_none HS5.out.1 HS5.out.2.1 HS5.out.2.2.1 HS5.out.2.2.2 (by rw [← HKK.out, he]; exact ref_ne hfin hd (fun h => hxl (by rw [hx]; exact of_list (by rw [← hsg]; exact h))))
                      clear bl hfin hsg hx hz hd
                      go_wp2_with (first | (go_at_call 22; (with_reducible refine (S3.out _).mono ?_); rintro e w2 ⟨rfl, hb2⟩; obtain ⟨hc2, hf2⟩ := bcell hb2; have hz2 := hb2.size; (try simp at hz2); (try simp only [heap_drew, World.heap_drewN] at hz2); (try simp only [heap_drew, World.heap_drewN] at hc2); (try simp only [heap_drew, World.heap_drewN] at hf2); (try have hs1 := Nat.lt_of_succ_le hz2); (try have hs2 := Nat.lt_of_succ_lt hs1); (try have y0 : w.heap.size < w2.heap.size := by omega); (try have y1 : w.heap.size + 1 < w2.heap.size := by omega); (try have y2 : w.heap.size + 2 < w2.heap.size := by omega)))
                      go_ret3
                      exact ⟨_, _, _, HR.out, rfl, by (repeat' (first | assumption | exact Below.refl _ _ | exact Below.size (by assumption) | (refine Below.setCell ?_ ?_ _) | (refine Below.alloc ?_ ?_ _) | (refine Below.drew ?_) | (refine below_drewN ?_ _) | (refine Below.trans ?_ (Below.mono ‹Below _ _ _› ?_)) | omega | (simp; done) | (simp; omega) | (simp at *; omega)))⟩
                  · have t2 : ((c : Int) == 45) = false := by simp <;> omega
                    have t2' : decide (c = 45) = false := decide_eq_false h45
                    have bl := HI.out.lt
                    have S3 := fun w => rnum55 ((n : Int)) (by omega) (by omega) w
                    obtain ⟨x, hx⟩ : ∃ x : ByteArray, x = ⟨(Lib.itoa ((n : Int))).toArray⟩ := ⟨_, rfl⟩
                    rw [← hx] at S3
                    have S3 := Lib.hid S3
                    have hsg : sgn last.data.toList n = (n : Int) := by have e := byte_at last 0 h0; rw [List.drop_zero] at e; refine sgn_not ?_ n; rw [e]; intro h; apply h45; rw [← hc, Option.some.inj h]; rfl
                    obtain ⟨z, hz⟩ : ∃ z : Int, z = (n : Int) := ⟨_, rfl⟩
                    have e9 : IntKind.i64.wrap (0 - (n : Int)) = -(n : Int) := by rw [IntKind.wrap_i64]; omega
                    have e9' : IntKind.i64.wrap (-(n : Int)) = -(n : Int) := by rw [IntKind.wrap_i64]; omega
                    by_cases hxl : x = last
                    · have hcan : Lib.itoa (sgn last.data.toList n) = last.data.toList := by rw [hsg, ← hxl, hx]
                      have HR : Hid (RdIs s (s.extract 0 k) ((n : Int)) 0) := by
                        have h := rd_some HS5.out.1 HS5.out.2.1 HS5.out.2.2.1 HS5.out.2.2.2 (by rw [← HKK.out, he]; exact ref_eq hfin hd hcan)
                        rw [hsg] at h
                        exact h
                      rw [hxl] at S3
                      clear bl hfin hcan hsg hx hxl hz hd
                      go_wp2_with (first | (go_at_call 22; (with_reducible refine (S3.out _).mono ?_); rintro e w2 ⟨rfl, hb2⟩; obtain ⟨hc2, hf2⟩ := bcell hb2; have hz2 := hb2.size; (try simp at hz2); (try simp only [heap_drew, World.heap_drewN] at hz2); (try simp only [heap_drew, World.heap_drewN] at hc2); (try simp only [heap_drew, World.heap_drewN] at hf2); (try have hs1 := Nat.lt_of_succ_le hz2); (try have hs2 := Nat.lt_of_succ_lt hs1); (try have y0 : w.heap.size < w2.heap.size := by omega); (try have y1 : w.heap.size + 1 < w2.heap.size := by omega); (try have y2 : w.heap.size + 2 < w2.heap.size := by omega)))
                      go_ret3
                      exact ⟨_, _, _, HR.out, by simp [*], by (repeat' (first | assumption | exact Below.refl _ _ | exact Below.size (by assumption) | (refine Below.setCell ?_ ?_ _) | (refine Below.alloc ?_ ?_ _) | (refine Below.drew ?_) | (refine below_drewN ?_ _) | (refine Below.trans ?_ (Below.mono ‹Below _ _ _› ?_)) | omega | (simp; done) | (simp; omega) | (simp at *; omega)))⟩
                    · have u1 : ¬ x.toList = last.toList := fun h => hxl (bytes_ext h)
                      have u2 : decide (x.toList = last.toList) = false := decide_eq_false u1
                      have u3 : (x.toList == last.toList) = false := beq_eq_false_iff_ne.2 u1
                      have HR : Hid (RdIs s ByteArray.empty 0 7) := rd_none HS5.out.1 HS5.out.2.1 HS5.out.2.2.1 HS5.out.2.2.2 (by rw [← HKK.out, he]; exact ref_ne hfin hd (fun h => hxl (by rw [hx]; exact of_list (by rw [← hsg]; exact h))))
                      clear bl hfin hsg hx hz hd
                      go_wp2_with (first | (go_at_call 22; (with_reducible refine (S3.out _).mono ?_); rintro e w2 ⟨rfl, hb2⟩; obtain ⟨hc2, hf2⟩ := bcell hb2; have hz2 := hb2.size; (try simp at hz2); (try simp only [heap_drew, World.heap_drewN] at hz2); (try simp only [heap_drew, World.heap_drewN] at hc2); (try simp only [heap_drew, World.heap_drewN] at hf2); (try have hs1 := Nat.lt_of_succ_le hz2); (try have hs2 := Nat.lt_of_succ_lt hs1); (try have y0 : w.heap.size < w2.heap.size := by omega); (try have y1 : w.heap.size + 1 < w2.heap.size := by omega); (try have y2 : w.heap.size + 2 < w2.heap.size := by omega)))
                      go_ret3
                      exact ⟨_, _, _, HR.out, rfl, by (repeat' (first | assumption | exact Below.refl _ _ | exact Below.size (by assumption) | (refine Below.setCell ?_ ?_ _) | (refine Below.alloc ?_ ?_ _) | (refine Below.drew ?_) | (refine below_drewN ?_ _) | (refine Below.trans ?_ (Below.mono ‹Below _ _ _› ?_)) | omega | (simp; done) | (simp; omega) | (simp at *; omega)))⟩
        · have HL2 : Hid (Lib.lastIndexByte s 32 = Lib.lastIdx s 32 k) := by
            show _ = _
            rw [HL.out]
            exact Lib.lastIdx_miss s 32 k (by rw [data_at s k k2, hc]; omega)
          have u1 : ((c : Int) == 32) = false := by simp <;> omega
          have u2 : decide (c = 32) = false := decide_eq_false h32
          have e1 : IntKind.i64.wrap ((k : Int) - 1) = (k : Int) - 1 := by rw [IntKind.wrap_i64]; omega
          have HJ2 : Hid (k ≤ s.size) := Nat.le_of_lt k2
          have HMS : Hid ((intOf (Value.int .i64 ((k : Int) - 1)) + 1).toNat < (intOf (Value.int .i64 (k : Int)) + 1).toNat) := by show _ < _; simp [intOf]
          clear hbj
          go_wp2_with fail
          go_round
          case rel => exact ⟨k, (k : Int) - 1, HJ2, rfl, HL2, rfl⟩
          case measure => exact HMS.out
end Go.Proofs.YtlccoabcialppaaDoor

/- The reference's decimal text of a number. -/
import Derived.Test.YtigocjhmgmhocaaGreatDoorBase
import Derived.Test.YtigocjhmgmhocaaGreatDoorNumeral
import Derived.Laws.BytesString
import Derived.Laws.IdiomStrings
namespace Go.Proofs.YtigocjhmgmhocaaGreatDoor
open Go.RowKit
set_option linter.unusedVariables false
set_option linter.unusedSimpArgs false

theorem size_list (o : ByteArray) : o.size = o.data.toList.length := (Array.length_toList (xs := o.data)).symm
def dmeas (a b : Value) : Nat := (intOf a).toNat + (match b with | .string s => if s.size = 0 then 1 else 0 | _ => 0)
theorem dmeas_eq (N : Nat) (o : ByteArray) : dmeas (.int .i64 (N : Int)) (.string o) = N + (if o.size = 0 then 1 else 0) := by unfold dmeas; simp [intOf]
def DInv (u N : Nat) (o : ByteArray) : Prop := (o.data.toList = [] ∧ N = u) ∨ (0 < N ∧ 0 < o.size ∧ Lib.decDigits u = Lib.decDigits N ++ o.data.toList) ∨ (N = 0 ∧ 0 < o.size ∧ o.data.toList = Lib.decDigits u)
theorem DInv.size {u N : Nat} {o : ByteArray} (h : DInv u N o) (hu : u < 9223372036854775808) : o.size ≤ 30 := by
  have h19 : (Lib.decDigits u).length ≤ 19 := by
    rw [Lib.decDigits_length]
    exact nDigits_le 19 u (by decide) (Nat.lt_of_lt_of_le hu (by decide))
  have e := size_list o
  rcases h with ⟨h, _⟩ | ⟨_, _, h⟩ | ⟨_, _, h⟩
  · rw [e, h]; simp
  · rw [h, List.length_append] at h19; omega
  · rw [e, h]; omega
theorem DInv.step {u N : Nat} {o b : ByteArray} (h : DInv u N o) (hN : 0 < N ∨ o.size = 0) (hb : b.data.toList = [UInt8.ofNat (48 + N % 10)]) : DInv u (N / 10) (b ++ o) := by
  have es : (b ++ o).data.toList = UInt8.ofNat (48 + N % 10) :: o.data.toList := by rw [ByteArray.data_append]; simp [hb]
  have e1 : 0 < (b ++ o).size := by
    rw [size_list, es]; simp
  have key : Lib.decDigits u = Lib.decDigits N ++ o.data.toList := by
    rcases h with ⟨h, rfl⟩ | ⟨_, _, h⟩ | ⟨h0, h1, _⟩
    · rw [h, List.append_nil]
    · exact h
    · omega
  by_cases h10 : N < 10
  · refine .inr (.inr ⟨by omega, e1, ?_⟩)
    rw [es, key, Lib.decDigits_one h10, Nat.mod_eq_of_lt h10]
    rfl
  · refine .inr (.inl ⟨by omega, e1, ?_⟩)
    rw [es, key]
    conv => lhs; rw [Lib.decDigits, dif_neg h10]
    simp
theorem DInv.done {u : Nat} {o : ByteArray} (h : DInv u 0 o) (ho : 0 < o.size) : o.data.toList = Lib.decDigits u := by
  rcases h with ⟨h, _⟩ | ⟨h, _⟩ | ⟨_, _, h⟩
  · have := size_list o
    rw [h] at this; simp only [List.length_nil] at this; omega
  · omega
  · exact h
theorem list_of {o : ByteArray} {t : List UInt8} (h : o.data.toList = t) : o = ⟨t.toArray⟩ := by subst h; obtain ⟨⟨l⟩⟩ := o; rfl
set_option maxRecDepth 100000 in
set_option maxHeartbeats 1000000 in
theorem rdigits (u : Nat) (hu : u < 9223372036854775808) (w : World) :
    Calls Tryz.prog 44 #[.int .i64 (u : Int), .int .i64 1] w fun e w' => e = .returned (.string ⟨(Lib.decDigits u).toArray⟩) ∧ Below w.heap.size w w' := by
  have HU := Lib.hid hu
  clear hu
  go_enter Tryz.func44, Tryz.ntmps44
  go_wp2_with fail
  go_loopw [0, 5] (fun a b wr => ∃ (N : Nat) (o : ByteArray), Hid (DInv u N o) ∧ Hid (N ≤ u) ∧ a = .int .i64 N ∧ b = .string o ∧ Hid (Below w.heap.size w wr)) (fun a b _ => dmeas a b)
  case atStart => exact ⟨u, ByteArray.empty, .inl ⟨rfl, rfl⟩, Nat.le_refl _, rfl, rfl, Below.refl _ _⟩
  case round =>
    obtain ⟨N, o, HI, HN, rfl, rfl, HW⟩ := hrel
    have hos := HI.out.size HU.out
    by_cases h0 : 0 < N ∨ o.size = 0
    · obtain ⟨q, hq⟩ : ∃ z, z = N / 10 := ⟨_, rfl⟩
      obtain ⟨r, hr⟩ : ∃ z, z = N % 10 := ⟨_, rfl⟩
      obtain ⟨c, hc⟩ : ∃ z, z = 48 + r := ⟨_, rfl⟩
      have v1 : Int.tmod (N : Int) 10 = (r : Int) := by rw [hr]; exact Int.ofNat_tmod N 10
      have v1' : (N : Int) % 10 = (r : Int) := by omega
      have v2 : Int.tdiv (N : Int) 10 = (q : Int) := by rw [hq]; exact Int.ofNat_tdiv N 10
      have v2' : (N : Int) / 10 = (q : Int) := by omega
      have v3 : IntKind.i64.wrap (48 + (r : Int)) = (c : Int) := by rw [IntKind.wrap_i64]; omega
      have v4 : IntKind.u8.wrap (c : Int) = (c : Int) := by unfold IntKind.wrap; simp [IntKind.bits, IntKind.signed]; omega
      have v5 : IntKind.i64.wrap (q : Int) = (q : Int) := by rw [IntKind.wrap_i64]; have := HN.out; have := HU.out; omega
      have hbn : (UInt8.ofNat c).toNat = c := by rw [hc]; exact digit_nat (by omega)
      obtain ⟨b, hbb⟩ : ∃ b : ByteArray, b = ⟨#[UInt8.ofNat c]⟩ := ⟨_, rfl⟩
      have hcv : (convert 51 9 (.slice (some ⟨wr.heap.size, 0, none⟩) 1 1)).run Tryz.prog (wr.alloc (.cells #[.int .u8 (c : Int)] 5)) = .ok (.string b) (wr.alloc (.cells #[.int .u8 (c : Int)] 5)) := by
        rw [hbb]
        exact run_convert_bytes_back (P := Tryz.prog) (wr.alloc (.cells #[.int .u8 (c : Int)] 5)) 51 9 5 ⟨wr.heap.size, 0, none⟩ 1 [UInt8.ofNat c] Tryz.underlying51 Tryz.underlying5 Tryz.underlying9 (fun j hj => by
          obtain rfl : j = 0 := by simpa using hj
          simp [Addr.add, hbn])
      have hbs : b.size = 1 := by rw [hbb]; rfl
      have HS : Hid (DInv u q (b ++ o)) := by rw [hq]; exact HI.out.step h0 (by rw [hbb, hc, hr])
      have HQ : Hid (q ≤ u) := by show q ≤ u; have := HN.out; omega
      have hbos : (b ++ o).size = 1 + o.size := by rw [ByteArray.size_append, hbs]
      have HMS : Hid (q + (if (b ++ o).size = 0 then 1 else 0) < N + (if o.size = 0 then 1 else 0)) := by
        show _ < _
        rw [hbos, if_neg (by omega)]
        split <;> omega
      by_cases hN : 0 < N
      · have t0 : decide ((0 : Int) < (N : Int)) = true := decide_eq_true (by omega)
        have t0' : decide (0 < N) = true := decide_eq_true hN
        clear h0 hq hr hc hbn hbb hN hbos
        go_wp2_with fail
        go_roundw
        case rel => exact ⟨q, b ++ o, HS, HQ, rfl, rfl, HW.out.alloc HW.out.size _⟩
        case measure => rw [dmeas_eq, dmeas_eq]; exact HMS.out
      · have t0 : decide ((0 : Int) < (N : Int)) = false := decide_eq_false (by omega)
        have t0' : decide (0 < N) = false := decide_eq_false hN
        have hz : o.size = 0 := by omega
        clear h0 hq hr hc hbn hbb hN hbos
        go_wp2_with fail
        go_roundw
        case rel => exact ⟨q, b ++ o, HS, HQ, rfl, rfl, HW.out.alloc HW.out.size _⟩
        case measure => rw [dmeas_eq, dmeas_eq]; exact HMS.out
    · have hN : N = 0 := by omega
      have t0 : decide ((0 : Int) < (N : Int)) = false := decide_eq_false (by omega)
      have t0' : decide (0 < N) = false := decide_eq_false (by omega)
      have HI' : Hid (DInv u 0 o) := by rw [← hN]; exact HI
      have ho : ¬ o.size = 0 := by omega
      have ho' : decide ((o.size : Int) < 1) = false := decide_eq_false (by omega)
      have HR : Hid (o = ⟨(Lib.decDigits u).toArray⟩) := list_of (HI'.out.done (by omega))
      clear h0 hN
      go_wp2_with fail
      go_ret
      exact ⟨by rw [HR.out]; rfl, HW.out⟩
theorem dec_size {u : Nat} (hu : u < 9223372036854775808) : (⟨(Lib.decDigits u).toArray⟩ : ByteArray).size ≤ 19 := by
  have e : (⟨(Lib.decDigits u).toArray⟩ : ByteArray).size = (Lib.decDigits u).length := rfl
  rw [e, Lib.decDigits_length]
  exact nDigits_le 19 u (by decide) (Nat.lt_of_lt_of_le hu (by decide))
theorem rformat (v : Int) (h1 : -9223372036854775808 < v) (h2 : v < 9223372036854775808) (w : World) :
    Calls Tryz.prog 26 #[.int .i64 v, .int .i64 0] w fun e w' => e = .returned (.string ⟨(Lib.itoa v).toArray⟩) ∧ Below w.heap.size w w' := by
  by_cases hv : v < 0
  · obtain ⟨u, hu⟩ : ∃ u : Nat, u = v.natAbs := ⟨_, rfl⟩
    have S := fun w => rdigits u (by omega) w
    have hs := dec_size (u := u) (by omega)
    have e1 : IntKind.i64.wrap (0 - v) = (u : Int) := by rw [IntKind.wrap_i64]; omega
    have e1' : IntKind.i64.wrap (-v) = (u : Int) := by rw [IntKind.wrap_i64]; omega
    have t1 : decide (v < 0) = true := decide_eq_true hv
    obtain ⟨d, hd⟩ : ∃ d : ByteArray, d = ⟨(Lib.decDigits u).toArray⟩ := ⟨_, rfl⟩
    rw [← hd] at S hs
    have S := Lib.hid S
    have HR : Hid ((⟨#[45]⟩ : ByteArray) ++ d = ⟨(Lib.itoa v).toArray⟩) := by
      show _ = _
      rw [itoa_neg' hv, ← hu]
      refine list_of ?_
      rw [ByteArray.data_append, hd]; simp
    clear hu hd hv h1 h2
    go_enter Tryz.func26, Tryz.ntmps26
    go_wp2_with (first | (go_at_call 44; (with_reducible refine (S.out _).mono ?_); rintro e w1 ⟨rfl, hb1⟩; obtain ⟨hc1, hf1⟩ := bcell hb1; have hz1 := hb1.size; (try simp at hz1); (try simp only [heap_drew, World.heap_drewN] at hz1); (try simp only [heap_drew, World.heap_drewN] at hc1); (try simp only [heap_drew, World.heap_drewN] at hf1); (try have hs1 := Nat.lt_of_succ_le hz1); (try have hs2 := Nat.lt_of_succ_lt hs1); (try have y0 : w.heap.size < w1.heap.size := by omega); (try have y1 : w.heap.size + 1 < w1.heap.size := by omega); (try have y2 : w.heap.size + 2 < w1.heap.size := by omega)))
    go_ret
    refine ⟨by rw [← HR.out]; rfl, ?_⟩
    (repeat' (first | assumption | exact Below.refl _ _ | exact Below.size (by assumption) | (refine Below.setCell ?_ ?_ _) | (refine Below.alloc ?_ ?_ _) | (refine Below.drew ?_) | (refine below_drewN ?_ _) | (refine Below.trans ?_ (Below.mono ‹Below _ _ _› ?_)) | omega | (simp; done) | (simp; omega) | (simp at *; omega)))
  · obtain ⟨u, hu⟩ : ∃ u : Nat, u = v.toNat := ⟨_, rfl⟩
    have S := fun w => rdigits u (by omega) w
    have hs := dec_size (u := u) (by omega)
    obtain ⟨d, hd⟩ : ∃ d : ByteArray, d = ⟨(Lib.decDigits u).toArray⟩ := ⟨_, rfl⟩
    rw [← hd] at S hs
    have S := Lib.hid S
    have hvu : v = (u : Int) := by omega
    have HR : Hid ((⟨#[]⟩ : ByteArray) ++ d = ⟨(Lib.itoa v).toArray⟩) := by
      show _ = _
      rw [itoa_pos' hv, ← hu]
      refine list_of ?_
      rw [ByteArray.data_append, hd]; simp
    rw [hvu] at HR ⊢
    have t1 : decide ((u : Int) < 0) = false := decide_eq_false (by omega)
    clear hu hd hv h1 h2 hvu
    go_enter Tryz.func26, Tryz.ntmps26
    go_wp2_with (first | (go_at_call 44; (with_reducible refine (S.out _).mono ?_); rintro e w1 ⟨rfl, hb1⟩; obtain ⟨hc1, hf1⟩ := bcell hb1; have hz1 := hb1.size; (try simp at hz1); (try simp only [heap_drew, World.heap_drewN] at hz1); (try simp only [heap_drew, World.heap_drewN] at hc1); (try simp only [heap_drew, World.heap_drewN] at hf1); (try have hs1 := Nat.lt_of_succ_le hz1); (try have hs2 := Nat.lt_of_succ_lt hs1); (try have y0 : w.heap.size < w1.heap.size := by omega); (try have y1 : w.heap.size + 1 < w1.heap.size := by omega); (try have y2 : w.heap.size + 2 < w1.heap.size := by omega)))
    go_ret
    refine ⟨by rw [← HR.out]; rfl, ?_⟩
    (repeat' (first | assumption | exact Below.refl _ _ | exact Below.size (by assumption) | (refine Below.setCell ?_ ?_ _) | (refine Below.alloc ?_ ?_ _) | (refine Below.drew ?_) | (refine below_drewN ?_ _) | (refine Below.trans ?_ (Below.mono ‹Below _ _ _› ?_)) | omega | (simp; done) | (simp; omega) | (simp at *; omega)))
end Go.Proofs.YtigocjhmgmhocaaGreatDoor

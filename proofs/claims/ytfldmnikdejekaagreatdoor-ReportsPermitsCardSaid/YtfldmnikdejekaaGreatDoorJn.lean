/- strings.Join, strings.Cut at a space, and the law's decimal numbers. -/
import Derived.Test.YtfldmnikdejekaaGreatDoorJoinP
import Derived.Test.YtfldmnikdejekaaGreatDoorShelfJoin
import Derived.Test.YtfldmnikdejekaaGreatDoorAwA
import Derived.Lib.IndexBytes
namespace Go.Proofs.YtfldmnikdejekaaGreatDoor
open Go.RowKit
set_option linter.unusedVariables false
set_option linter.unusedSimpArgs false

theorem tjoin (A : Option Addr) (n c : Nat) (X : Nat → ByteArray) (hnc : n ≤ c) (h40 : n ≤ 40) (h6 : ∀ i, i < n → (X i).size ≤ 600) (w : World) (ht : StrIn w A n X) :
    Calls Tryz.prog 141 #[.slice A n c, .string ⟨#[32]⟩] w fun e w' => e = .returned (.string ⟨(jn (wl X n)).toArray⟩) ∧ Below w.heap.size w w' := by
  rcases ht.2 with h0 | ⟨b, o, rfl, h⟩
  · subst h0
    refine (Tryz.strings_Join_none A c ⟨#[32]⟩ w).mono ?_
    rintro e w' ⟨he, rfl⟩
    exact ⟨he, Below.refl _ _⟩
  · have hlen := jn_len X 600 n h6
    have hl : (wl X n).length = n := by simp [wl]
    have hm := Nat.mul_le_mul_right 601 h40
    have := Tryz.strings_Join b o c (wl X n) ⟨#[32]⟩ w (fun j x hj => by
      have hjn : j < n := by
        have := (List.getElem?_eq_some_iff.1 hj).1
        omega
      have hx : x = X j := by
        unfold wl at hj
        simp [hjn] at hj
        exact hj.symm
      rw [hx]; exact h.2 j hjn) h.1 (by omega) (by omega) (by
      show (jn (wl X n)).length ≤ _
      omega)
    rw [hl] at this
    exact this
set_option maxHeartbeats 1000000 in
theorem tcut0 (row : ByteArray) (word : List UInt8) (hr : row.size ≤ 1000) (h : Begins row.data.toList word) : ∃ (a b : ByteArray) (f : Bool), a.size = word.length ∧ ∀ w, Calls Tryz.prog 103 #[.string row, .string ⟨#[32]⟩] w fun e w' => e = .returned (.tuple #[.string a, .string b, .bool f]) ∧ Below w.heap.size w w' := by
  have S := fun w => Tryz.stringslite_Index_one row 32 w
  rcases index_begins h with ⟨e, hw⟩ | ⟨e, hlt⟩
  · refine ⟨row, ⟨#[]⟩, false, by rw [size_list, hw], fun w => ?_⟩
    rw [e] at S
    have S := Lib.hid S
    clear e hw hr h
    go_enter Tryz.func103, Tryz.ntmps103
    go_wp2_with (first | (go_at_call 170; (with_reducible refine (S.out _).mono ?_); rintro e w' ⟨rfl, rfl⟩))
    go_ret3
    exact ⟨rfl, by (repeat' (first | assumption | exact Below.refl _ _ | exact Below.size (by assumption) | (refine Below.setCell ?_ ?_ _) | (refine Below.alloc ?_ ?_ _) | (refine Below.drew ?_) | (refine below_drewN ?_ _) | (refine Below.trans ?_ (Below.mono ‹Below _ _ _› ?_)) | omega | (simp; done) | (simp; omega) | (simp at *; omega)))⟩
  · rw [← size_list] at hlt
    obtain ⟨k, hk⟩ : ∃ k, k = word.length := ⟨_, rfl⟩
    rw [← hk] at e hlt
    obtain ⟨kk, hkk⟩ : ∃ z, z = k + 1 := ⟨_, rfl⟩
    refine ⟨row.extract 0 k, row.extract kk row.size, true, by rw [ext_size _ _ _ (by omega)]; omega, fun w => ?_⟩
    rw [e] at S
    have S := Lib.hid S
    have t1 : decide ((0 : Int) ≤ (k : Int)) = true := decide_eq_true (by omega)
    have t2 : IntKind.i64.wrap ((k : Int) + 1) = (kk : Int) := by rw [IntKind.wrap_i64]; omega
    have t3 : kk ≤ row.size := by omega
    have t4 : (kk : Int) ≤ (row.size : Int) := by omega
    have t5 : k ≤ row.size := by omega
    have t6 : (k : Int) ≤ (row.size : Int) := by omega
    clear e hk hkk hr h hlt
    go_enter Tryz.func103, Tryz.ntmps103
    go_wp2_with (first | (go_at_call 170; (with_reducible refine (S.out _).mono ?_); rintro e w' ⟨rfl, rfl⟩))
    go_quiet (fail)
    go_wp2_with fail
    go_ret3
    exact ⟨by simp [*], by (repeat' (first | assumption | exact Below.refl _ _ | exact Below.size (by assumption) | (refine Below.setCell ?_ ?_ _) | (refine Below.alloc ?_ ?_ _) | (refine Below.drew ?_) | (refine below_drewN ?_ _) | (refine Below.trans ?_ (Below.mono ‹Below _ _ _› ?_)) | omega | (simp; done) | (simp; omega) | (simp at *; omega)))⟩
theorem tcut (row : ByteArray) (word : List UInt8) (hr : row.size ≤ 1000) (h : Begins row.data.toList word) : ∃ (a b : ByteArray) (f : Bool), a.size = word.length ∧ ∀ w, Calls Tryz.prog 36 #[.string row, .string ⟨#[32]⟩] w fun e w' => e = .returned (.tuple #[.string a, .string b, .bool f]) ∧ Below w.heap.size w w' := by
  obtain ⟨a, b, f, ha, hc⟩ := tcut0 row word hr h
  refine ⟨a, b, f, ha, fun w => ?_⟩
  have S := Lib.hid hc
  clear hc ha hr h
  go_enter Tryz.func36, Tryz.ntmps36
  go_wp2_with (first | (go_at_call 103; (with_reducible refine (S.out _).mono ?_); rintro e w1 ⟨rfl, hb1⟩; obtain ⟨hc1, hf1⟩ := bcell hb1; have hz1 := hb1.size; (try simp at hz1); (try simp only [heap_drew, World.heap_drewN] at hz1); (try simp only [heap_drew, World.heap_drewN] at hc1); (try simp only [heap_drew, World.heap_drewN] at hf1); (try have hs1 := Nat.lt_of_succ_le hz1); (try have hs2 := Nat.lt_of_succ_lt hs1); (try have y0 : w.heap.size < w1.heap.size := by omega); (try have y1 : w.heap.size + 1 < w1.heap.size := by omega); (try have y2 : w.heap.size + 2 < w1.heap.size := by omega)))
  go_ret3
  refine ⟨rfl, ?_⟩
  (repeat' (first | assumption | exact Below.refl _ _ | exact Below.size (by assumption) | (refine Below.setCell ?_ ?_ _) | (refine Below.alloc ?_ ?_ _) | (refine Below.drew ?_) | (refine below_drewN ?_ _) | (refine Below.trans ?_ (Below.mono ‹Below _ _ _› ?_)) | omega | (simp; done) | (simp; omega) | (simp at *; omega)))
/-- A label, a space and a number of at most 18 digits are read. -/
theorem itoa_nosp {v : Int} : ∀ c ∈ Lib.itoa v, c ≠ 32 := by
  have hd : ∀ u : Nat, ∀ c ∈ Lib.decDigits u, c ≠ 32 := by
    intro u
    induction u using Nat.strongRecOn with
    | _ u ih =>
      intro c hc e
      rw [Lib.decDigits] at hc
      split at hc
      · rename_i h10
        rw [List.mem_singleton.1 hc] at e
        have := digit_nat h10
        rw [e] at this
        have : (32 : UInt8).toNat = 48 + u := this
        have h32 : (32 : UInt8).toNat = 32 := rfl
        omega
      · rename_i h10
        rcases List.mem_append.1 hc with h | h
        · exact ih (u / 10) (by omega) c h e
        · rw [List.mem_singleton.1 h] at e
          have := digit_nat (show u % 10 < 10 by omega)
          rw [e] at this
          have h32 : (32 : UInt8).toNat = 32 := rfl
          omega
  intro c hc
  by_cases hv : v < 0
  · rw [itoa_neg' hv] at hc
    rcases List.mem_cons.1 hc with h | h
    · rw [h]; decide
    · exact hd _ c h
  · rw [itoa_pos' hv] at hc
    exact hd _ c hc
theorem rd_join {s l : ByteArray} {v : Int} (h1 : -1000000000000000000 < v) (h2 : v < 1000000000000000000) (hl : 1 ≤ l.size) (h5 : s.size ≤ 500) (hs : s.data.toList = l.data.toList ++ 32 :: Lib.itoa v) : RdIs s l v 0 := by
  have hsz : s.size = l.size + (1 + (Lib.itoa v).length) := by rw [size_list, size_list, hs, List.length_append, List.length_cons]; omega
  have hget : ∀ j, (hj : j < s.size) → s.data[j]! = (s.data.toList)[j]'(by rw [← size_list]; exact hj) := fun j hj => by
    rw [getElem!_pos s.data j hj]; simp
  have hat : ((s.data[l.size]!).toNat : Int) = 32 := by
    rw [hget l.size (by omega)]
    have : (s.data.toList)[l.size]'(by rw [← size_list]; omega) = 32 := by
      simp only [hs]
      rw [List.getElem_append_right (by rw [← size_list]; exact Nat.le_refl _)]
      simp [← size_list]
    rw [this]; rfl
  have hafter : ∀ j, l.size < j → j < s.size → ((s.data[j]!).toNat : Int) ≠ 32 := fun j hj hjs e => by
    rw [hget j hjs] at e
    have hm : (s.data.toList)[j]'(by rw [← size_list]; exact hjs) ∈ Lib.itoa v := by
      simp only [hs]
      rw [List.getElem_append_right (by rw [← size_list]; omega)]
      obtain ⟨m, e2⟩ : ∃ m, j - l.data.toList.length = m + 1 := ⟨j - l.data.toList.length - 1, by rw [← size_list]; omega⟩
      simp only [e2, List.getElem_cons_succ]
      exact List.getElem_mem _
    exact itoa_nosp _ hm (UInt8.toNat_inj.1 (by have h32 : (32 : UInt8).toNat = 32 := rfl; omega))
  have hlast : Lib.lastIndexByte s 32 = (l.size : Int) := by
    rcases Lib.lastIndexByte_spec s 32 with ⟨_, hn⟩ | ⟨i, hi, e, hc, hn⟩
    · exact absurd hat (hn l.size (by omega))
    · rcases Nat.lt_trichotomy i l.size with g | g | g
      · exact absurd hat (hn l.size g (by omega))
      · rw [e, g]
      · exact absurd hc (hafter i g hi)
  have hx : (s.extract (l.size + 1) s.size).data.toList = Lib.itoa v := by
    have e := size_list l
    rw [Lib.extract_to_end, hs, e, ← List.drop_drop, List.drop_left]
    rfl
  have hx0 : s.extract 0 l.size = l := by
    have e : (s.extract 0 l.size).data.toList = l.data.toList := by
      rw [ByteArray.data_extract, Array.toList_extract, hs, size_list]
      simp
    obtain ⟨⟨a⟩⟩ := l
    exact (list_of e).trans (by simp)
  exact ⟨.inr (.inr ⟨h5, l.size, hl, by omega, hlast, .inl ⟨⟨v, ⟨hx, h1, h2⟩, rfl⟩, hx0.symm, rfl⟩⟩)⟩
end Go.Proofs.YtfldmnikdejekaaGreatDoor

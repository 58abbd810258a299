/- The reference's Text of permits. -/
import Derived.Test.YtigocjhmgmhocaaGreatDoorRpP
import Derived.Test.YtigocjhmgmhocaaGreatDoorPxT
namespace Go.Proofs.YtigocjhmgmhocaaGreatDoor
open Go.RowKit
set_option linter.unusedVariables false
set_option linter.unusedSimpArgs false

theorem ba_eq {a b : ByteArray} (h : a.data.toList = b.data.toList) : a = b := bytes_eq h
set_option maxRecDepth 100000 in
set_option maxHeartbeats 8000000 in
theorem rtextp (A : Option Addr) (n c : Nat) (P : Pms) (w : World) (hn : n ≤ 20) (hP : PmIn w A n P) (hok : ∀ k, k < n → okP (P.at k)) :
    Calls Tryz.prog 11 #[.slice A n c] w fun e w' => e = .returned (.string ⟨(ptx (pml P n)).toArray⟩) ∧ Below w.heap.size w w' := by
  have HLEN : Hid (∀ i, i ≤ n → (ptx (pml P i)).length ≤ 99 * i) := fun i hi => by
    have := ptx_le (L := pml P i) (fun p hp => by
      obtain ⟨k, hk, rfl⟩ := pml_mem.1 hp
      exact (hok k (by omega)).form)
    rw [pml_len] at this; exact this
  have HP := Lib.hid hP
  have HOK := Lib.hid hok
  have HN := Lib.hid hn
  clear hP hok hn
  go_enter Tryz.func11, Tryz.ntmps11
  go_wp2_with fail
  go_loopw [3, 4] (fun u v wr => ∃ (i : Nat) (a : ByteArray), u = .string a ∧ v = .int .i64 i ∧ Hid (i ≤ n) ∧ Hid (a = ⟨(ptx (pml P i)).toArray⟩) ∧ Hid (Below w.heap.size w wr)) (fun _ v _ => n - (intOf v).toNat)
  case atStart => exact ⟨0, ⟨#[]⟩, rfl, rfl, Nat.zero_le _, rfl, Below.refl _ _⟩
  case round =>
    obtain ⟨i, a, rfl, rfl, Hi, HA, HW⟩ := hrel
    have hn20 := HN.out
    by_cases hlt : i < n
    case neg =>
      have T0 : decide ((i : Int) < (n : Int)) = false := by simp <;> omega
      have T0' : decide (i < n) = false := decide_eq_false hlt
      have e : i = n := by have := Hi.out; omega
      have HR : Hid (a = ⟨(ptx (pml P n)).toArray⟩) := by show _ = _; rw [← e]; exact HA.out
      clear hlt e hn20
      go_wp2_with fail
      go_ret
      exact ⟨by rw [← HR.out]; rfl, HW.out⟩
    have T0 : decide ((i : Int) < (n : Int)) = true := by simp <;> omega
    have T0' : decide (i < n) = true := decide_eq_true hlt
    obtain ⟨i', hi'⟩ : ∃ z, z = i + 1 := ⟨_, rfl⟩
    have x0 : IntKind.i64.wrap ((i : Int) + 1) = (i' : Int) := by rw [IntKind.wrap_i64]; omega
    have k0 : (0 : Int) ≤ (i : Int) := by omega
    have k1 : (i : Int) < (n : Int) := by omega
    have T8 : decide ((i : Int) < 0) = false := decide_eq_false (by omega)
    obtain ⟨d, off, rfl, hd, c0, c1, c2, c3, c4⟩ := HP.out.at hlt
    have hpf : formP (P.at i) := (HOK.out i hlt).form
    have hlen := HLEN.out i (by omega)
    have hpl := pcl_len hpf 3
    rw [pcl_three] at hpl
    have ha := HA.out
    have has : a.size ≤ 1980 := by rw [ha]; show (ptx (pml P i)).length ≤ _; omega
    have nv := hpf.ev.near
    have nw := hpf.vol.near
    have nx := hpf.tot.near
    have L1 := Lib.hid fun w => rformat (P.Ev i) (by have := nv.1; show _ < (P.at i).ev; omega) (by have := nv.2; show (P.at i).ev < _; omega) w
    have L2 := Lib.hid fun w => rformat (P.Vol i) (by have := nw.1; show _ < (P.at i).vol; omega) (by have := nw.2; show (P.at i).vol < _; omega) w
    have L3 := Lib.hid fun w => rformat (P.Tot i) (by have := nx.1; show _ < (P.at i).tot; omega) (by have := nx.2; show (P.at i).tot < _; omega) w
    obtain ⟨nm, hnm⟩ : ∃ z, P.Nm i = z := ⟨_, rfl⟩
    obtain ⟨nd, hnd⟩ : ∃ z, P.Nd i = z := ⟨_, rfl⟩
    have z1 : nm.size ≤ 20 := by have := (name_bytes hpf.nm).2.2.2; rw [← size_lst] at this; rw [← hnm]; exact this
    have z2 : nd.size ≤ 20 := by have := (name_bytes hpf.nd).2.2.2; rw [← size_lst] at this; rw [← hnd]; exact this
    obtain ⟨x1, hx1⟩ : ∃ z : ByteArray, ⟨(Lib.itoa (P.Ev i)).toArray⟩ = z := ⟨_, rfl⟩
    obtain ⟨x2, hx2⟩ : ∃ z : ByteArray, ⟨(Lib.itoa (P.Vol i)).toArray⟩ = z := ⟨_, rfl⟩
    obtain ⟨x3, hx3⟩ : ∃ z : ByteArray, ⟨(Lib.itoa (P.Tot i)).toArray⟩ = z := ⟨_, rfl⟩
    have z3 : x1.size ≤ 18 := by rw [← hx1]; exact itoa_18 hpf.ev
    have z4 : x2.size ≤ 18 := by rw [← hx2]; exact itoa_18 hpf.vol
    have z5 : x3.size ≤ 18 := by rw [← hx3]; exact itoa_18 hpf.tot
    rw [hx1] at L1
    rw [hx2] at L2
    rw [hx3] at L3
    rw [hnm] at c0
    rw [hnd] at c1
    obtain ⟨y1, ey1⟩ : ∃ z, a ++ nm = z := ⟨_, rfl⟩
    have sy1 : y1.size = a.size + nm.size := by rw [← ey1, ByteArray.size_append]
    obtain ⟨y2, ey2⟩ : ∃ z, y1 ++ (⟨#[32]⟩ : ByteArray) = z := ⟨_, rfl⟩
    have sy2 : y2.size = y1.size + 1 := by rw [← ey2, ByteArray.size_append]; rfl
    obtain ⟨y3, ey3⟩ : ∃ z, y2 ++ nd = z := ⟨_, rfl⟩
    have sy3 : y3.size = y2.size + nd.size := by rw [← ey3, ByteArray.size_append]
    obtain ⟨y4, ey4⟩ : ∃ z, y3 ++ (⟨#[32]⟩ : ByteArray) = z := ⟨_, rfl⟩
    have sy4 : y4.size = y3.size + 1 := by rw [← ey4, ByteArray.size_append]; rfl
    obtain ⟨y5, ey5⟩ : ∃ z, y4 ++ x1 = z := ⟨_, rfl⟩
    have sy5 : y5.size = y4.size + x1.size := by rw [← ey5, ByteArray.size_append]
    obtain ⟨y6, ey6⟩ : ∃ z, y5 ++ (⟨#[32]⟩ : ByteArray) = z := ⟨_, rfl⟩
    have sy6 : y6.size = y5.size + 1 := by rw [← ey6, ByteArray.size_append]; rfl
    obtain ⟨y7, ey7⟩ : ∃ z, y6 ++ x2 = z := ⟨_, rfl⟩
    have sy7 : y7.size = y6.size + x2.size := by rw [← ey7, ByteArray.size_append]
    obtain ⟨y8, ey8⟩ : ∃ z, y7 ++ (⟨#[32]⟩ : ByteArray) = z := ⟨_, rfl⟩
    have sy8 : y8.size = y7.size + 1 := by rw [← ey8, ByteArray.size_append]; rfl
    obtain ⟨y9, ey9⟩ : ∃ z, y8 ++ x3 = z := ⟨_, rfl⟩
    have sy9 : y9.size = y8.size + x3.size := by rw [← ey9, ByteArray.size_append]
    obtain ⟨y10, ey10⟩ : ∃ z, y9 ++ (⟨#[10]⟩ : ByteArray) = z := ⟨_, rfl⟩
    have sy10 : y10.size = y9.size + 1 := by rw [← ey10, ByteArray.size_append]; rfl
    have EQ : Hid (y10 = ⟨(ptx (pml P i')).toArray⟩) := by
      show _ = _
      apply ba_eq
      rw [hi', pml_succ, ptx_snoc]
      subst ey10 ey9 ey8 ey7 ey6 ey5 ey4 ey3 ey2 ey1 hx1 hx2 hx3 hnm hnd ha
      simp [pln, Pms.at]
    have lm0 : ¬ 9223372036854775807 < a.size + nm.size := by omega
    have vp0 : ((a.size : Nat) : Int) ≤ 8388608 := by omega
    have lm1 : ¬ 9223372036854775807 < y1.size + 1 := by omega
    have vp1 : ((y1.size : Nat) : Int) ≤ 8388608 := by omega
    have lm2 : ¬ 9223372036854775807 < y2.size + nd.size := by omega
    have vp2 : ((y2.size : Nat) : Int) ≤ 8388608 := by omega
    have lm3 : ¬ 9223372036854775807 < y3.size + 1 := by omega
    have vp3 : ((y3.size : Nat) : Int) ≤ 8388608 := by omega
    have lm4 : ¬ 9223372036854775807 < y4.size + x1.size := by omega
    have vp4 : ((y4.size : Nat) : Int) ≤ 8388608 := by omega
    have lm5 : ¬ 9223372036854775807 < y5.size + 1 := by omega
    have vp5 : ((y5.size : Nat) : Int) ≤ 8388608 := by omega
    have lm6 : ¬ 9223372036854775807 < y6.size + x2.size := by omega
    have vp6 : ((y6.size : Nat) : Int) ≤ 8388608 := by omega
    have lm7 : ¬ 9223372036854775807 < y7.size + 1 := by omega
    have vp7 : ((y7.size : Nat) : Int) ≤ 8388608 := by omega
    have lm8 : ¬ 9223372036854775807 < y8.size + x3.size := by omega
    have vp8 : ((y8.size : Nat) : Int) ≤ 8388608 := by omega
    have lm9 : ¬ 9223372036854775807 < y9.size + 1 := by omega
    have vp9 : ((y9.size : Nat) : Int) ≤ 8388608 := by omega
    have HI' : Hid (i' ≤ n) := by show _ ≤ _; omega
    have HMS : Hid (n - (intOf (Value.int .i64 (i' : Int))).toNat < n - (intOf (Value.int .i64 (i : Int))).toNat) := by show _ < _; simp [intOf]; omega
    generalize P.Ev i = ev at L1 c2 ⊢
    generalize P.Vol i = vo at L2 c3 ⊢
    generalize P.Tot i = tz at L3 c4 ⊢
    have HS : Hid (∀ w', Below wr.heap.size wr w' → w'.cell? ⟨d, off + i * 5, none⟩ = some (.string nm) ∧ w'.cell? ⟨d, off + i * 5 + 1, none⟩ = some (.string nd) ∧ w'.cell? ⟨d, off + i * 5 + 2, none⟩ = some (.int .i64 ev) ∧ w'.cell? ⟨d, off + i * 5 + 3, none⟩ = some (.int .i64 vo) ∧ w'.cell? ⟨d, off + i * 5 + 4, none⟩ = some (.int .i64 tz)) := fun w' hb => by
      have hb' := below_step HW.out hb
      exact ⟨(hb'.cell (p := ⟨d, _, none⟩) hd).trans c0, (hb'.cell (p := ⟨d, _, none⟩) hd).trans c1, (hb'.cell (p := ⟨d, _, none⟩) hd).trans c2, (hb'.cell (p := ⟨d, _, none⟩) hd).trans c3, (hb'.cell (p := ⟨d, _, none⟩) hd).trans c4⟩
    have hs0 := HS.out wr (Below.refl _ _)
    clear hi' hlen hpl ha has nv nw nx hpf hn20 z1 z2 z3 z4 z5 hx1 hx2 hx3 hnm hnd sy1 sy2 sy3 sy4 sy5 sy6 sy7 sy8 sy9 sy10 c0 c1 c2 c3 c4 HP HOK HLEN HN Hi hd
    go_wp2_with fail
    go_region_held3 (fun w' => w'.cell? ⟨d, off + i * 5, none⟩ = some (.string nm) ∧ w'.cell? ⟨d, off + i * 5 + 1, none⟩ = some (.string nd) ∧ w'.cell? ⟨d, off + i * 5 + 2, none⟩ = some (.int .i64 ev) ∧ w'.cell? ⟨d, off + i * 5 + 3, none⟩ = some (.int .i64 vo) ∧ w'.cell? ⟨d, off + i * 5 + 4, none⟩ = some (.int .i64 tz)) (first
      | exact hs0
      | exact HS.out _ (by (repeat' (first | assumption | exact Below.refl _ _ | exact Below.size (by assumption) | (refine Below.setCell ?_ ?_ _) | (refine Below.alloc ?_ ?_ _) | (refine Below.drew ?_) | (refine below_drewN ?_ _) | (refine Below.trans ?_ (Below.mono ‹Below _ _ _› ?_)) | omega | (simp; done) | (simp; omega) | (simp at *; omega))))) (first
      | (go_at_call 26
         with_reducible refine (L1.out _).mono ?_
         rintro e w6 ⟨rfl, hb6⟩
         have hq6 : Below wr.heap.size wr w6 := Below.trans (by (repeat' (first | assumption | exact Below.refl _ _ | exact Below.size (by assumption) | (refine Below.setCell ?_ ?_ _) | (refine Below.alloc ?_ ?_ _) | (refine Below.drew ?_) | (refine below_drewN ?_ _) | (refine Below.trans ?_ (Below.mono ‹Below _ _ _› ?_)) | omega | (simp; done) | (simp; omega) | (simp at *; omega)))) (hb6.mono (by simp <;> omega))
         clear hb6)
      | (go_at_call 26
         with_reducible refine (L2.out _).mono ?_
         rintro e w7 ⟨rfl, hb7⟩
         have hq7 : Below wr.heap.size wr w7 := Below.trans (by (repeat' (first | assumption | exact Below.refl _ _ | exact Below.size (by assumption) | (refine Below.setCell ?_ ?_ _) | (refine Below.alloc ?_ ?_ _) | (refine Below.drew ?_) | (refine below_drewN ?_ _) | (refine Below.trans ?_ (Below.mono ‹Below _ _ _› ?_)) | omega | (simp; done) | (simp; omega) | (simp at *; omega)))) (hb7.mono (Nat.le_trans hq6.size (by simp <;> omega)))
         clear hb7)
      | (go_at_call 26
         with_reducible refine (L3.out _).mono ?_
         rintro e w8 ⟨rfl, hb8⟩
         have hq8 : Below wr.heap.size wr w8 := Below.trans (by (repeat' (first | assumption | exact Below.refl _ _ | exact Below.size (by assumption) | (refine Below.setCell ?_ ?_ _) | (refine Below.alloc ?_ ?_ _) | (refine Below.drew ?_) | (refine below_drewN ?_ _) | (refine Below.trans ?_ (Below.mono ‹Below _ _ _› ?_)) | omega | (simp; done) | (simp; omega) | (simp at *; omega)))) (hb8.mono (Nat.le_trans hq7.size (by simp <;> omega)))
         clear hb8))
    all_goals (have HW8 := Lib.hid (below_step HW.out hq8); go_wp2_with fail; go_roundw)
    all_goals first | exact HMS.out | exact ⟨i', y10, rfl, rfl, HI', EQ, by have h9 := HW8.out; first | exact h9 | exact below_drewN h9 _⟩
end Go.Proofs.YtigocjhmgmhocaaGreatDoor

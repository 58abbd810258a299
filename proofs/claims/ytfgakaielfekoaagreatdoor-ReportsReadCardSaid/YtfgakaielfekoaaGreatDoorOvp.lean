/- What Overflows needs: numbers of its lines. Plain but for the types. -/
import Derived.Test.YtfgakaielfekoaaGreatDoorRpn
import Derived.Test.YtfgakaielfekoaaGreatDoorMgE
namespace Go.Proofs.YtfgakaielfekoaaGreatDoor
open Go.RowKit
set_option linter.unusedVariables false
set_option linter.unusedSimpArgs false

theorem psum_mono {f : Nat → Int} : ∀ {n k : Nat}, k ≤ n → (∀ j, j < n → 0 ≤ f j) → psum f k ≤ psum f n
  | 0, k, h, _ => by
    have : k = 0 := by omega
    subst this; exact Int.le_refl _
  | n + 1, k, h, hf => by
    rcases Nat.lt_or_ge n k with g | g
    · have : k = n + 1 := by omega
      subst this; exact Int.le_refl _
    · have := psum_mono (f := f) g fun j hj => hf j (by omega)
      have := hf n (by omega)
      show psum f k ≤ psum f n + f n
      omega
theorem psum_nn {f : Nat → Int} : ∀ {n : Nat}, (∀ j, j < n → 0 ≤ f j) → 0 ≤ psum f n
  | 0, _ => Int.le_refl _
  | n + 1, hf => by
    have := psum_nn (f := f) (n := n) fun j hj => hf j (by omega)
    have := hf n (by omega)
    show 0 ≤ psum f n + f n
    omega
theorem getD_memS {R : List Sp} {k : Nat} (h : k < R.length) : R.getD k default ∈ R := by
  rw [List.getD_eq_getElem?_getD, List.getElem?_eq_getElem h]
  exact List.getElem_mem _
/-- What the runs of a node's spills give. -/
structure OGood (s : Nat) (L : List Sp) : Prop where
  cnt : CntOK L.length (evsOf L)
  each : ∀ k, k < L.length → 0 ≤ (evsOf L).F k ∧ (evsOf L).F k < (evsOf L).To k ∧ (evsOf L).To k ≤ (s : Int) ∧ (evsOf L).To k ≤ 20
  tot : 0 ≤ psum (evsOf L).Tot L.length ∧ psum (evsOf L).Tot L.length ≤ 1152921504606846976
  lon : 0 ≤ lonS L ∧ lonS L ≤ (s : Int) ∧ lonS L ≤ 20
  lon1 : L ≠ [] → 1 ≤ lonS L
theorem oev_good {v : Nat → Int} {s : Nat} (h20 : s ≤ 20) (hv : ∀ k, k < s → 0 ≤ v k ∧ v k ≤ 1125899906842624) : OGood s (runs v s) := by
  have hg := runs_good h20 hv
  generalize runs v s = L at hg
  have each : ∀ k, k < L.length → 0 ≤ (evsOf L).F k ∧ (evsOf L).F k < (evsOf L).To k ∧ (evsOf L).To k ≤ (s : Int) ∧ (evsOf L).To k ≤ 20 := fun k hk => by
    have h := hg.each _ (getD_memS hk)
    show (0 : Int) ≤ (((L.getD k default).f : Nat) : Int) ∧ (((L.getD k default).f : Nat) : Int) < (((L.getD k default).t : Nat) : Int) ∧ (((L.getD k default).t : Nat) : Int) ≤ (s : Int) ∧ (((L.getD k default).t : Nat) : Int) ≤ 20
    omega
  have nn : ∀ k, k < L.length → 0 ≤ (evsOf L).Tot k := fun k hk => by
    have h := hg.each _ (getD_memS hk)
    show 0 ≤ (L.getD k default).s
    omega
  have hs := hg.sum
  rw [← psum_sumS] at hs
  have hb : (1125899906842624 : Int) * (s : Int) ≤ 1125899906842624 * 20 := Int.mul_le_mul_of_nonneg_left (by omega) (by omega)
  have hlon : 0 ≤ lonS L ∧ lonS L ≤ (s : Int) := ⟨mx_nn _ _, mx_le (by omega) fun k hk => by have := each k hk; omega⟩
  refine ⟨⟨by have := hg.len; omega, hg.right, fun k hk => ⟨psum_nn fun j hj => nn j (by omega), ?_⟩⟩, each, ⟨hs.1, by omega⟩, ⟨hlon.1, hlon.2, by omega⟩, fun hne => ?_⟩
  · have := psum_mono hk nn
    omega
  · have h0 : 0 < L.length := List.length_pos_iff.2 hne
    have h1 := each 0 h0
    have h2 : (evsOf L).To 0 - (evsOf L).F 0 ≤ lonS L := mx_ge (fun k => (evsOf L).To k - (evsOf L).F k) h0
    omega
theorem lon_sec {l x : Int} (h : 0 ≤ l ∧ l ≤ 20) (hs : 1 ≤ x ∧ x ≤ 86400) : 0 ≤ l * x ∧ l * x ≤ 1728000 := by
  have a := Int.mul_nonneg h.1 (by omega : 0 ≤ x)
  have b : l * x ≤ 20 * x := Int.mul_le_mul_of_nonneg_right h.2 (by omega)
  omega
theorem RMem5.app3 {w wr w' : World} {u v : Value} {N : Nat} {R : List ByteArray} {a b c : ByteArray} {t : TypeId} {cs : Array Value} (h : RMem5 w wr u N R) (hown : w'.ownsRow w.heap.size 9 1 v (N + 3) (sc R ++ [.string a, .string b, .string c])) (hg : (wr.alloc (.cells cs t)).grownBy w' u.ownBlock) : RMem5 w w' v (N + 3) (R ++ [a, b, c]) :=
  ⟨by have e : sc (R ++ [a, b, c]) = sc R ++ [.string a, .string b, .string c] := by simp [sc]
      rw [e]; exact hown, below_own (h.1.alloc _) (h.2.alloc h.2.size _) hg⟩
theorem h63_3 {n : Nat} (h : n ≤ 2000) : n + 3 ≤ maxLen := by simp only [maxLen]; omega
theorem hby_3 {n : Nat} (h : n ≤ 2000) : (n + 3) * 16 ≤ 140737488355328 := by omega
theorem olin_nil {D : Nds} {S : Sts} {s : Nat} {sec : Int} {i : Nat} (h : oev S s i = []) : olin D S s sec i = [] := by unfold olin; rw [if_pos h]
theorem olin_some {D : Nds} {S : Sts} {s : Nat} {sec : Int} {i : Nat} (h : oev S s i ≠ []) : olin D S s sec i = [ln3 (D.Nm i) wEvs ((oev S s i).length : Int), ln3 (D.Nm i) wVol (psum (evsOf (oev S s i)).Tot (oev S s i).length), ln3 (D.Nm i) wLon (lonS (oev S s i) * sec)] := by unfold olin; rw [if_neg h]
theorem oout_one {D : Nds} {S : Sts} {s : Nat} {sec : Int} {i : Nat} : oout D S s sec (i + 1) = oout D S s sec i ++ olin D S s sec i := rfl
end Go.Proofs.YtfgakaielfekoaaGreatDoor

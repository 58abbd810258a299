/- Merged texts of these proofs: Rst, Tnp, LnL, KdS. -/
import Derived.Test.YtdgfljkhnifemaaGreatDoorMgD
import Derived.Test.YtdgfljkhnifemaaGreatDoorNetW
import Derived.Deep.RegionHeld3
import Derived.Test.YtdgfljkhnifemaaGreatDoorSct
namespace Go.Proofs.YtdgfljkhnifemaaGreatDoor
open Go.RowKit
set_option linter.unusedVariables false
set_option linter.unusedSimpArgs false

end Go.Proofs.YtdgfljkhnifemaaGreatDoor

namespace Go.Proofs.YtdgfljkhnifemaaGreatDoor
open Go.RowKit
set_option linter.unusedVariables false
set_option linter.unusedSimpArgs false

theorem blk_app {w wx w' : World} {u : Value} {N g : Nat} {R : List ByteArray} {t : TypeId} {cs cs' : Array Value} (h : Blk wx g t cs) (hm : RMem5 w wx u N R) (hne : 9 ≠ t) (hg : (wx.alloc (.cells cs' 9)).grownBy w' u.ownBlock) : Blk w' g t cs :=
  (h.alloc _).grown hg (fun e => own_blk_ne (hm.1.alloc (.cells cs' 9)) (h.alloc _) hne e.symm)
theorem Blk.drew1 {w : World} {g : Nat} {t : TypeId} {cs : Array Value} (h : Blk w g t cs) : Blk w.drew g t cs := h
end Go.Proofs.YtdgfljkhnifemaaGreatDoor

namespace Go.Proofs.YtdgfljkhnifemaaGreatDoor
open Go.RowKit
set_option linter.unusedVariables false
set_option linter.unusedSimpArgs false

theorem it_of_blk {w : World} {g : Nat} {t : TypeId} {L : List Itm} (h : Blk w g t (L.map Itm.val).toArray) : ItAt w g 0 L.length (fun k => L.getD k (.n 0)) :=
  ⟨h.lt, fun k hk => by
    rw [Nat.zero_add, h.cell k]
    simp [List.getD, hk]⟩
theorem itl_list (L : List Itm) : itl (fun k => L.getD k (.n 0)) L.length = L.map Itm.txt := by
  unfold itl
  apply List.ext_getElem?
  intro k
  rcases Nat.lt_or_ge k L.length with h | h
  · simp [List.getD, h]
  · simp [List.getElem?_eq_none h, h]
theorem tlineL (L : List Itm) (h12 : L.length ≤ 12) (hok : ∀ x, x ∈ L → x.ok) (g c : Nat) (t : TypeId) (w : World) (hE : Env5 w) (hB : Blk w g t (L.map Itm.val).toArray) :
    Calls Tryz.prog 31 #[.slice (some ⟨g, 0, none⟩) L.length c] w fun e w' => e = .returned (.string (bsx (jn (L.map Itm.txt)))) ∧ Below w.heap.size w w' := by
  have h := tline g 0 L.length c (fun k => L.getD k (.n 0)) h12 (fun k hk => by
    have : L.getD k (.n 0) ∈ L := by
      simp only [List.getD, List.getElem?_eq_getElem hk, Option.getD_some]
      exact List.getElem_mem hk
    exact hok _ this) w hE (it_of_blk hB)
  rw [itl_list] at h
  exact h
theorem h63_1 {n : Nat} (h : n ≤ 2000) : n + 1 ≤ maxLen := by simp only [maxLen]; omega
theorem hby_1 {n : Nat} (h : n ≤ 2000) : (n + 1) * 16 ≤ 140737488355328 := by omega
end Go.Proofs.YtdgfljkhnifemaaGreatDoor

namespace Go.Proofs.YtdgfljkhnifemaaGreatDoor
open Go.RowKit
set_option linter.unusedVariables false
set_option linter.unusedSimpArgs false

set_option maxRecDepth 100000 in
theorem tkind (nm fr tn : ByteArray) (kd ln up dn : Int) (sc : ByteArray) (wd ht : Int) (A : Option Addr) (n c : Nat) (w : World) :
    Calls Tryz.prog 32 #[.agg #[.string nm, .string fr, .string tn, .int .i64 kd, .int .i64 ln, .int .i64 up, .int .i64 dn, .string sc, .int .i64 wd, .int .i64 ht, .slice A n c]] w fun e w' => e = .returned (.string (kwd kd)) ∧ Below w.heap.size w w' := by
  by_cases h1 : kd = 2
  · have t1 : (kd == 2) = true := by simpa using h1
    rw [show kwd kd = wWeir from if_pos h1]
    unfold wWeir
    generalize kd = z at t1
    clear h1
    go_enter Tryz.func32, Tryz.ntmps32
    go_wp2_with fail
    go_ret
    exact ⟨rfl, by (repeat' (first | assumption | exact Below.refl _ _ | exact Below.size (by assumption) | (refine Below.setCell ?_ ?_ _) | (refine Below.alloc ?_ ?_ _) | (refine Below.drew ?_) | (refine below_drewN ?_ _) | (refine Below.trans ?_ (Below.mono ‹Below _ _ _› ?_)) | omega | (simp; done) | (simp; omega) | (simp at *; omega)))⟩
  · have t1 : (kd == 2) = false := by simpa using h1
    by_cases h2 : kd = 3
    · have t2 : (kd == 3) = true := by simpa using h2
      rw [show kwd kd = wGate from by unfold kwd; rw [if_neg h1, if_pos h2]]
      unfold wGate
      generalize kd = z at t1 t2
      clear h1 h2
      go_enter Tryz.func32, Tryz.ntmps32
      go_wp2_with fail
      go_ret
      exact ⟨rfl, by (repeat' (first | assumption | exact Below.refl _ _ | exact Below.size (by assumption) | (refine Below.setCell ?_ ?_ _) | (refine Below.alloc ?_ ?_ _) | (refine Below.drew ?_) | (refine below_drewN ?_ _) | (refine Below.trans ?_ (Below.mono ‹Below _ _ _› ?_)) | omega | (simp; done) | (simp; omega) | (simp at *; omega)))⟩
    · have t2 : (kd == 3) = false := by simpa using h2
      rw [show kwd kd = wPump from by unfold kwd; rw [if_neg h1, if_neg h2]]
      unfold wPump
      generalize kd = z at t1 t2
      clear h1 h2
      go_enter Tryz.func32, Tryz.ntmps32
      go_wp2_with fail
      go_ret
      exact ⟨rfl, by (repeat' (first | assumption | exact Below.refl _ _ | exact Below.size (by assumption) | (refine Below.setCell ?_ ?_ _) | (refine Below.alloc ?_ ?_ _) | (refine Below.drew ?_) | (refine below_drewN ?_ _) | (refine Below.trans ?_ (Below.mono ‹Below _ _ _› ?_)) | omega | (simp; done) | (simp; omega) | (simp at *; omega)))⟩
end Go.Proofs.YtdgfljkhnifemaaGreatDoor

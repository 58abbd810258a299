/- What the reference's Check keeps: three rows of findings. -/
import Derived.Test.YtfldmnikdejekaaGreatDoorRFi
import Derived.Test.YtfldmnikdejekaaGreatDoorChkA
import Derived.Test.YtfldmnikdejekaaGreatDoorYwP
namespace Go.Proofs.YtfldmnikdejekaaGreatDoor
open Go.RowKit Go.Maps
set_option linter.unusedVariables false
set_option linter.unusedSimpArgs false

def kR (kind : Int) (p : Int → Bool) (Y : Nat → Int) (i : Nat) : List (Int × Int) := ((keysTo Y i).filter p).map fun y => (kind, y)
theorem kR_len (kind : Int) (p : Int → Bool) (Y : Nat → Int) (i : Nat) : (kR kind p Y i).length ≤ i := by
  unfold kR
  rw [List.length_map]
  exact Nat.le_trans (List.length_filter_le _ _) (keys_len Y i)
theorem kR_old {kind : Int} {p : Int → Bool} {Y : Nat → Int} {i : Nat} (h : ¬ newAt Y i) : kR kind p Y (i + 1) = kR kind p Y i := by unfold kR; rw [keys_old h]
theorem kR_hit {kind : Int} {p : Int → Bool} {Y : Nat → Int} {i : Nat} (h : newAt Y i) (hp : p (Y i) = true) : kR kind p Y (i + 1) = kR kind p Y i ++ [(kind, Y i)] := by
  unfold kR; rw [keys_new h, List.filter_append, List.map_append]; simp [hp]
theorem kR_miss {kind : Int} {p : Int → Bool} {Y : Nat → Int} {i : Nat} (h : newAt Y i) (hp : p (Y i) = false) : kR kind p Y (i + 1) = kR kind p Y i := by
  unfold kR; rw [keys_new h, List.filter_append, List.map_append]; simp [hp]
theorem finds_is (Y T : Nat → Int) (n : Nat) (ev vol tot : Int) : finds Y T n ev vol tot = kR 1 (fun y => decide (ev < (cnt Y y n : Int))) Y n ++ gFnd T vol n ++ kR 3 (fun y => decide (tot < sm Y T y n)) Y n := rfl
def T3 (w wr : World) (u : Value) (M : Nat) (L : List (Int × Int)) (v : Value) (M' : Nat) (L' : List (Int × Int)) (x : Value) (M'' : Nat) (L'' : List (Int × Int)) : Prop :=
  RMem w wr u M L ∧ RMem w wr v M' L' ∧ RMem w wr x M'' L'' ∧ apart u v ∧ apart u x ∧ apart v x
section
variable {w wr w' : World} {u v x : Value} {M M' M'' : Nat} {L L' L'' : List (Int × Int)}
theorem T3.bel (h : T3 w wr u M L v M' L' x M'' L'') : Below w.heap.size w wr := h.1.2.2
theorem T3.call (h : T3 w wr u M L v M' L' x M'' L'') (hb : Below wr.heap.size wr w') : T3 w w' u M L v M' L' x M'' L'' := ⟨h.1.call hb, h.2.1.call hb, h.2.2.1.call hb, h.2.2.2⟩
theorem T3.nil (w : World) : T3 w w (.slice none 0 0) 0 [] (.slice none 0 0) 0 [] (.slice none 0 0) 0 [] :=
  ⟨RMem.nil _ _ (Below.refl _ _), RMem.nil _ _ (Below.refl _ _), RMem.nil _ _ (Below.refl _ _), (fun g h => by cases h), (fun g h => by cases h), (fun g h => by cases h)⟩
theorem T3.app1 {u' : Value} {k y : Int} (h : T3 w wr u M L v M' L' x M'' L'') {cs : Array Value} {t : TypeId} (hown : w'.ownsRow w.heap.size 162 2 u' (M + 1) (fc L ++ [.int .i64 k, .string (fnm y)])) (hg : (wr.alloc (.cells cs t)).grownBy w' u.ownBlock)
    (hat : u'.ownBlock = u.ownBlock ∨ u'.ownBlock = some (wr.alloc (.cells cs t)).heap.size) : T3 w w' u' (M + 1) (L ++ [(k, y)]) v M' L' x M'' L'' := by
  have a := PMem.app1 (v := v) (M' := M') (L' := L') ⟨h.1, h.2.1, h.2.2.2.1⟩ hown hg hat
  have b := PMem.app1 (v := x) (M' := M'') (L' := L'') ⟨h.1, h.2.2.1, h.2.2.2.2.1⟩ hown hg hat
  exact ⟨a.1, a.2.1, b.2.1, a.2.2, b.2.2, h.2.2.2.2.2⟩
theorem T3.app2 {v' : Value} {k y : Int} (h : T3 w wr u M L v M' L' x M'' L'') {cs : Array Value} {t : TypeId} (hown : w'.ownsRow w.heap.size 162 2 v' (M' + 1) (fc L' ++ [.int .i64 k, .string (fnm y)])) (hg : (wr.alloc (.cells cs t)).grownBy w' v.ownBlock)
    (hat : v'.ownBlock = v.ownBlock ∨ v'.ownBlock = some (wr.alloc (.cells cs t)).heap.size) : T3 w w' u M L v' (M' + 1) (L' ++ [(k, y)]) x M'' L'' := by
  have a := PMem.app2 (u := u) (M := M) (L := L) ⟨h.1, h.2.1, h.2.2.2.1⟩ hown hg hat
  have b := PMem.app1 (v := x) (M' := M'') (L' := L'') ⟨h.2.1, h.2.2.1, h.2.2.2.2.2⟩ hown hg hat
  exact ⟨a.1, a.2.1, b.2.1, a.2.2, h.2.2.2.2.1, b.2.2⟩
theorem T3.app3 {x' : Value} {k y : Int} (h : T3 w wr u M L v M' L' x M'' L'') {cs : Array Value} {t : TypeId} (hown : w'.ownsRow w.heap.size 162 2 x' (M'' + 1) (fc L'' ++ [.int .i64 k, .string (fnm y)])) (hg : (wr.alloc (.cells cs t)).grownBy w' x.ownBlock)
    (hat : x'.ownBlock = x.ownBlock ∨ x'.ownBlock = some (wr.alloc (.cells cs t)).heap.size) : T3 w w' u M L v M' L' x' (M'' + 1) (L'' ++ [(k, y)]) := by
  have a := PMem.app2 (u := u) (M := M) (L := L) ⟨h.1, h.2.2.1, h.2.2.2.2.1⟩ hown hg hat
  have b := PMem.app2 (u := v) (M := M') (L := L') ⟨h.2.1, h.2.2.1, h.2.2.2.2.2⟩ hown hg hat
  exact ⟨a.1, b.1, a.2.1, h.2.2.2.1, a.2.2, b.2.2⟩
theorem T3.form (h : T3 w wr u M L v M' L' x M'' L'') : (∃ A c, u = .slice A M c ∧ M ≤ c) ∧ (∃ A c, v = .slice A M' c ∧ M' ≤ c) ∧ (∃ A c, x = .slice A M'' c ∧ M'' ≤ c) := ⟨h.1.form, h.2.1.form, h.2.2.1.form⟩
end
theorem IntIn.cellAt {w : World} {b off n k : Nat} {X : Nat → Int} (h : IntIn w (some ⟨b, off, none⟩) n X) (hk : k < n) : b < w.heap.size ∧ w.cell? ⟨b, off + k, none⟩ = some (.int .i64 (X k)) := by
  obtain ⟨b', off', hA, hb, hc⟩ := h.at hk
  injection hA with hA
  injection hA with h1 h2
  subst h1 h2
  exact ⟨hb, hc⟩
theorem EvIn.cellAt {w : World} {b off n k : Nat} {E : Evs} (h : EvIn w (some ⟨b, off, none⟩) n E) (hk : k < n) : b < w.heap.size ∧ w.cell? ⟨b, off + k * 4, none⟩ = some (.int .i64 (E.F k)) ∧ w.cell? ⟨b, off + k * 4 + 1, none⟩ = some (.int .i64 (E.To k)) ∧ w.cell? ⟨b, off + k * 4 + 2, none⟩ = some (.int .i64 (E.Tot k)) ∧ w.cell? ⟨b, off + k * 4 + 3, none⟩ = some (.int .i64 (E.Pk k)) := by
  obtain ⟨b', off', hA, hb, hc⟩ := h.at hk
  injection hA with hA
  injection hA with h1 h2
  subst h1 h2
  exact ⟨hb, hc⟩
theorem FndIn.atS {w : World} {b off : Nat} {L : List (Int × Int)} (h : FndIn w (some ⟨b, off, none⟩) L) : FndAt w b off L := by
  rcases h.2 with ⟨h, _⟩ | ⟨b', o', hA, ht, _⟩
  · cases h
  · injection hA with hA
    injection hA with h1 h2
    subst h1 h2
    exact ht
/-- A row grown by another list. -/
theorem RMem.more {w wr w' : World} {u v : Value} {N m : Nat} {L L' : List (Int × Int)} (h : RMem w wr u N L) (hm : m = L'.length) (hown : w'.ownsRow w.heap.size 162 2 v (N + m) (fc L ++ fc L')) (hg : wr.grownBy w' u.ownBlock) : RMem w w' v (N + m) (L ++ L') :=
  ⟨by rw [fc_append]; exact hown, by rw [List.length_append, h.2.1, hm], own_grown_below h.1 h.2.2 hg⟩
theorem RMem.apart_kept {w wr w' : World} {u x : Value} {N : Nat} {L : List (Int × Int)} (h : RMem w wr x N L) (hg : wr.grownBy w' u.ownBlock) (ha : apart u x) (hb : Below w.heap.size w w') : RMem w w' x N L := by
  refine h.kept hg ?_ hb
  cases hx : x.ownBlock with
  | none => exact .inl rfl
  | some g => exact .inr fun e => ha g e.symm hx
end Go.Proofs.YtfldmnikdejekaaGreatDoor

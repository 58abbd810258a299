/- Three rows of numbers that a walk owns. -/
import Derived.Test.YtgbnbafigjijmaaDoorBrk
namespace Go.Proofs.YtgbnbafigjijmaaDoor
open Go.RowKit
set_option linter.unusedVariables false
set_option linter.unusedSimpArgs false

def iv (L : List Int) : List Value := L.map (Value.int .i64)
theorem iv_app (L M : List Int) : iv (L ++ M) = iv L ++ iv M := by unfold iv; rw [List.map_append]
theorem iv_set (L : List Int) (k : Nat) (x : Int) : (iv L).set k (.int .i64 x) = iv (L.set k x) := by unfold iv; rw [List.map_set]
theorem iv_at {L : List Int} {k : Nat} (h : k < L.length) : (iv L)[k]? = some (.int .i64 (L.getD k 0)) := by unfold iv; simp [List.getD, h]
/-- A row of numbers that is owned. -/
def VM (w wr : World) (u : Value) (N : Nat) (L : List Int) : Prop := wr.ownsRow w.heap.size 3 1 u N (iv L) ∧ N = L.length ∧ Below w.heap.size w wr
theorem VM.call {w wr w' : World} {u : Value} {N : Nat} {L : List Int} (h : VM w wr u N L) (hb : Below wr.heap.size wr w') : VM w w' u N L := ⟨own_below h.1 hb, h.2.1, below_step h.2.2 hb⟩
theorem VM.app {w wr w' : World} {u v : Value} {N : Nat} {L : List Int} {x : Int} (h : VM w wr u N L) {cs : Array Value} {t : TypeId} (hown : w'.ownsRow w.heap.size 3 1 v (N + 1) (iv L ++ [.int .i64 x])) (hg : (wr.alloc (.cells cs t)).grownBy w' u.ownBlock) : VM w w' v (N + 1) (L ++ [x]) :=
  ⟨by rw [iv_app]; exact hown, by rw [List.length_append, h.2.1]; rfl, below_own (h.1.alloc _) (h.2.2.alloc h.2.2.size _) hg⟩
theorem VM.kept {w wr w' : World} {u : Value} {N : Nat} {L : List Int} (h : VM w wr u N L) {row : Option Nat} (hg : wr.grownBy w' row) (hne : u.ownBlock = none ∨ u.ownBlock ≠ row) (hb : Below w.heap.size w w') : VM w w' u N L :=
  ⟨h.1.kept hg hne, h.2.1, hb⟩
theorem VM.form {w wr : World} {u : Value} {N : Nat} {L : List Int} (h : VM w wr u N L) : ∃ A cap, u = .slice A N cap := by
  rcases h.1.2 with ⟨hv, h0⟩ | ⟨g, cap, cur, hv, _⟩
  · exact ⟨none, 0, by rw [hv, h0]⟩
  · exact ⟨_, cap, hv⟩
theorem VM.form1 {w wr : World} {u : Value} {N : Nat} {L : List Int} (h : VM w wr u N L) (h0 : 0 < N) : ∃ g cap, u = .slice (some ⟨g, 0, none⟩) N cap ∧ g < wr.heap.size ∧ w.heap.size ≤ g := by
  obtain ⟨g, cap, hv, hg, hl⟩ := h.1.form h0
  rw [hv] at h
  exact ⟨g, cap, hv, (h.1.lt g rfl).2, (h.1.lt g rfl).1⟩
theorem VM.at {w wr : World} {g cap N k : Nat} {L : List Int} (h : VM w wr (.slice (some ⟨g, 0, none⟩) N cap) N L) (hk : k < N) : wr.cell? ⟨g, k, none⟩ = some (.int .i64 (L.getD k 0)) ∧ wr.frozen? ⟨g, k, none⟩ = false := by
  refine ⟨?_, h.1.frozenAt k⟩
  rw [h.1.cellAt k (by omega), iv_at (by rw [← h.2.1]; exact hk)]
def apart3 (u v : Value) : Prop := ∀ g, u.ownBlock = some g → v.ownBlock ≠ some g
theorem apart3.symm {u v : Value} (h : apart3 u v) : apart3 v u := fun g hv hu => h g hu hv
/-- Three rows. -/
def Y3 (w wr : World) (u : Value) (N : Nat) (L : List Int) (v : Value) (N' : Nat) (L' : List Int) (x : Value) (N'' : Nat) (L'' : List Int) : Prop :=
  VM w wr u N L ∧ VM w wr v N' L' ∧ VM w wr x N'' L'' ∧ apart3 u v ∧ apart3 v x ∧ apart3 x u
section
variable {w wr w' : World} {u v x u' : Value} {N N' N'' : Nat} {L L' L'' : List Int}
theorem Y3.call (h : Y3 w wr u N L v N' L' x N'' L'') (hb : Below wr.heap.size wr w') : Y3 w w' u N L v N' L' x N'' L'' := ⟨h.1.call hb, h.2.1.call hb, h.2.2.1.call hb, h.2.2.2⟩
theorem Y3.rot (h : Y3 w wr u N L v N' L' x N'' L'') : Y3 w wr v N' L' x N'' L'' u N L := ⟨h.2.1, h.2.2.1, h.1, h.2.2.2.2.1, h.2.2.2.2.2, h.2.2.2.1⟩
theorem Y3.bel (h : Y3 w wr u N L v N' L' x N'' L'') : Below w.heap.size w wr := h.1.2.2
theorem Y3.app1 (h : Y3 w wr u N L v N' L' x N'' L'') {z : Int} {cs : Array Value} {t : TypeId} (hown : w'.ownsRow w.heap.size 3 1 u' (N + 1) (iv L ++ [.int .i64 z])) (hg : (wr.alloc (.cells cs t)).grownBy w' u.ownBlock)
    (hat : u'.ownBlock = u.ownBlock ∨ u'.ownBlock = some (wr.alloc (.cells cs t)).heap.size) : Y3 w w' u' (N + 1) (L ++ [z]) v N' L' x N'' L'' := by
  have h2 := h.1.app hown hg
  have ha : Below wr.heap.size wr (wr.alloc (.cells cs t)) := (Below.refl _ _).alloc (Nat.le_refl _) _
  have k : ∀ {s : Value} {M : Nat} {S : List Int}, VM w wr s M S → apart3 u s → VM w w' s M S ∧ apart3 u' s := by
    intro s M S hs hus
    refine ⟨(hs.call ha).kept hg ?_ h2.2.2, fun g hu' hsg => ?_⟩
    · cases hvb : s.ownBlock with
      | none => exact .inl rfl
      | some g => exact .inr fun e => hus g e.symm hvb
    · rcases hat with e | e
      · exact hus g (by rw [← e]; exact hu') hsg
      · rw [hu'] at e
        injection e with e
        have := ((hs.call ha).1.lt g hsg).2
        omega
  obtain ⟨k1, k2⟩ := k h.2.1 h.2.2.2.1
  obtain ⟨k3, k4⟩ := k h.2.2.1 h.2.2.2.2.2.symm
  exact ⟨h2, k1, k3, k2, h.2.2.2.2.1, k4.symm⟩
theorem Y3.set1 {g cap k : Nat} {z : Int} (h : Y3 w wr (.slice (some ⟨g, 0, none⟩) N cap) N L v N' L' x N'' L'') : Y3 w (wr.setCell ⟨g, k, none⟩ (.int .i64 z)) (.slice (some ⟨g, 0, none⟩) N cap) N (L.set k z) v N' L' x N'' L'' := by
  obtain ⟨s1, s2⟩ := h.1.1.stored k (.int .i64 z)
  have hb : Below w.heap.size w (wr.setCell ⟨g, k, none⟩ (.int .i64 z)) := h.1.2.2.setCell (p := ⟨g, k, none⟩) (h.1.1.lt g rfl).1 _
  have kk : ∀ {s : Value} {M : Nat} {S : List Int}, VM w wr s M S → apart3 (.slice (some ⟨g, 0, none⟩) N cap) s → VM w (wr.setCell ⟨g, k, none⟩ (.int .i64 z)) s M S := by
    intro s M S hs hus
    refine hs.kept s2 ?_ hb
    cases hvb : s.ownBlock with
    | none => exact .inl rfl
    | some g' => exact .inr fun e => hus g' (by simp [Value.ownBlock] at e ⊢; exact e.symm) hvb
  exact ⟨⟨by rw [← iv_set]; exact s1, by rw [List.length_set]; exact h.1.2.1, hb⟩, kk h.2.1 h.2.2.2.1, kk h.2.2.1 h.2.2.2.2.2.symm, h.2.2.2⟩
theorem Y3.app2 (h : Y3 w wr u N L v N' L' x N'' L'') {z : Int} {cs : Array Value} {t : TypeId} (hown : w'.ownsRow w.heap.size 3 1 u' (N' + 1) (iv L' ++ [.int .i64 z])) (hg : (wr.alloc (.cells cs t)).grownBy w' v.ownBlock)
    (hat : u'.ownBlock = v.ownBlock ∨ u'.ownBlock = some (wr.alloc (.cells cs t)).heap.size) : Y3 w w' u N L u' (N' + 1) (L' ++ [z]) x N'' L'' := (h.rot.app1 hown hg hat).rot.rot
theorem Y3.app3 (h : Y3 w wr u N L v N' L' x N'' L'') {z : Int} {cs : Array Value} {t : TypeId} (hown : w'.ownsRow w.heap.size 3 1 u' (N'' + 1) (iv L'' ++ [.int .i64 z])) (hg : (wr.alloc (.cells cs t)).grownBy w' x.ownBlock)
    (hat : u'.ownBlock = x.ownBlock ∨ u'.ownBlock = some (wr.alloc (.cells cs t)).heap.size) : Y3 w w' u N L v N' L' u' (N'' + 1) (L'' ++ [z]) := (h.rot.rot.app1 hown hg hat).rot
theorem Y3.set2 {g cap k : Nat} {z : Int} (h : Y3 w wr u N L (.slice (some ⟨g, 0, none⟩) N' cap) N' L' x N'' L'') : Y3 w (wr.setCell ⟨g, k, none⟩ (.int .i64 z)) u N L (.slice (some ⟨g, 0, none⟩) N' cap) N' (L'.set k z) x N'' L'' := (Y3.set1 h.rot).rot.rot
theorem Y3.set3 {g cap k : Nat} {z : Int} (h : Y3 w wr u N L v N' L' (.slice (some ⟨g, 0, none⟩) N'' cap) N'' L'') : Y3 w (wr.setCell ⟨g, k, none⟩ (.int .i64 z)) u N L v N' L' (.slice (some ⟨g, 0, none⟩) N'' cap) N'' (L''.set k z) := (Y3.set1 h.rot.rot).rot
theorem Y3.nil (w : World) : Y3 w w (.slice none 0 0) 0 [] (.slice none 0 0) 0 [] (.slice none 0 0) 0 [] :=
  ⟨⟨World.ownsRow_nil _ _ _ _, rfl, Below.refl _ _⟩, ⟨World.ownsRow_nil _ _ _ _, rfl, Below.refl _ _⟩, ⟨World.ownsRow_nil _ _ _ _, rfl, Below.refl _ _⟩, (fun g h => by cases h), (fun g h => by cases h), (fun g h => by cases h)⟩
end
end Go.Proofs.YtgbnbafigjijmaaDoor

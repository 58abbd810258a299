/- Merged texts of these proofs: SmN, Nrc. -/
import Derived.Test.YtghefgifhebniaaGreatDoorNetK
import Derived.Test.YtghefgifhebniaaGreatDoorMgC
import Derived.Test.YtghefgifhebniaaGreatDoorMgJ
import Derived.Test.YtghefgifhebniaaGreatDoorEdg
namespace Go.Proofs.YtghefgifhebniaaGreatDoor
open Go.RowKit
set_option linter.unusedVariables false
set_option linter.unusedSimpArgs false
def ndEq (nm : ByteArray) (kd ax ay iv gd : Int) (n : Nat) (X Y : Nat → Int) (pt : Bool) (rs : Int) (nm' : ByteArray) (kd' ax' ay' iv' gd' : Int) (m : Nat) (X' Y' : Nat → Int) (pt' : Bool) (rs' : Int) : Prop :=
 nm = nm' ∧ kd = kd' ∧ ax = ax' ∧ ay = ay' ∧ iv = iv' ∧ gd = gd' ∧ pt = pt' ∧ rs = rs' ∧ tabEq n X Y m X' Y'
end Go.Proofs.YtghefgifhebniaaGreatDoor
namespace Go.Proofs.YtghefgifhebniaaGreatDoor
open Go.RowKit
set_option linter.unusedVariables false
set_option linter.unusedSimpArgs false
def ndrOf (D : Nds) (k : Nat) : Ndr := ⟨D.Nm k, D.Kd k, D.Ax k, D.Ay k, D.Iv k, D.Gd k, edl (D.SN k) (D.SX k) (D.SY k), D.Pt k, D.Rs k⟩
def lkrOf (K : Lks) (k : Nat) : Lkr := ⟨K.Nm k, K.Fr k, K.To k, K.Kd k, K.Ln k, K.Up k, K.Dn k, K.Sc k, K.Wd k, K.Ht k, edl (K.CN k) (K.CX k) (K.CY k)⟩
def recN (D : Nds) (n : Nat) : List Ndr := (List.range n).map (ndrOf D)
def recL (K : Lks) (m : Nat) : List Lkr := (List.range m).map (lkrOf K)
theorem recN_len (D : Nds) (n : Nat) : (recN D n).length = n := by simp [recN]
theorem recL_len (K : Lks) (m : Nat) : (recL K m).length = m := by simp [recL]
theorem recN_succ (D : Nds) (n : Nat) : recN D (n + 1) = recN D n ++ [ndrOf D n] := by unfold recN; rw [List.range_succ, List.map_append]; rfl
theorem recL_succ (K : Lks) (m : Nat) : recL K (m + 1) = recL K m ++ [lkrOf K m] := by unfold recL; rw [List.range_succ, List.map_append]; rfl
theorem recN_at {D : Nds} {n k : Nat} (h : k < n) : (recN D n).getD k zNd = ndrOf D k := by simp [recN, List.getD, h]
theorem recL_at {K : Lks} {m k : Nat} (h : k < m) : (recL K m).getD k zLk = lkrOf K k := by simp [recL, List.getD, h]
theorem edl_eq {n m : Nat} {X Y X' Y' : Nat → Int} : edl n X Y = edl m X' Y' ↔ tabEq n X Y m X' Y' := by
 constructor
 · intro h
   have hl : n = m := by have := congrArg List.length h; rwa [edl_len, edl_len] at this
   refine ⟨hl, fun k hk => ?_⟩
   have h1 := edl_at (X := X) (Y := Y) hk
   have h2 := edl_at (X := X') (Y := Y') (show k < m by omega)
   rw [h] at h1
   exact ⟨h1.1.symm.trans h2.1, h1.2.symm.trans h2.2⟩
 · rintro ⟨rfl, h⟩
   unfold edl
   refine List.map_congr_left fun k hk => ?_
   obtain ⟨a, b⟩ := h k (List.mem_range.1 hk)
   rw [a, b]
theorem edl_self (T : List (Int × Int)) : edl T.length (kX T) (kY T) = T := by
 refine list_of_kk (by rw [edl_len]) fun k hk => ?_
 rw [edl_len] at hk
 exact edl_at hk
theorem ndrOf_eq {D D' : Nds} {i j : Nat} : ndrOf D i = ndrOf D' j ↔ ndEq (D.Nm i) (D.Kd i) (D.Ax i) (D.Ay i) (D.Iv i) (D.Gd i) (D.SN i) (D.SX i) (D.SY i) (D.Pt i) (D.Rs i) (D'.Nm j) (D'.Kd j) (D'.Ax j) (D'.Ay j) (D'.Iv j) (D'.Gd j) (D'.SN j) (D'.SX j) (D'.SY j) (D'.Pt j) (D'.Rs j) := by
 unfold ndrOf ndEq
 rw [Ndr.mk.injEq, edl_eq]
 constructor
 · rintro ⟨a, b, c, d, e, f, g, h, i⟩; exact ⟨a, b, c, d, e, f, h, i, g⟩
 · rintro ⟨a, b, c, d, e, f, h, i, g⟩; exact ⟨a, b, c, d, e, f, g, h, i⟩
theorem lkrOf_eq {K K' : Lks} {i j : Nat} : lkrOf K i = lkrOf K' j ↔ lkEq (K.Nm i) (K.Fr i) (K.To i) (K.Kd i) (K.Ln i) (K.Up i) (K.Dn i) (K.Sc i) (K.Wd i) (K.Ht i) (K.CN i) (K.CX i) (K.CY i) (K'.Nm j) (K'.Fr j) (K'.To j) (K'.Kd j) (K'.Ln j) (K'.Up j) (K'.Dn j) (K'.Sc j) (K'.Wd j) (K'.Ht j) (K'.CN j) (K'.CX j) (K'.CY j) := by
 unfold lkrOf lkEq
 rw [Lkr.mk.injEq, edl_eq]
theorem recN_eq {D D' : Nds} {n n' : Nat} : recN D n = recN D' n' ↔ n = n' ∧ ∀ i, i < n → ndrOf D i = ndrOf D' i := by
 constructor
 · intro h
   have hl : n = n' := by have := congrArg List.length h; rwa [recN_len, recN_len] at this
   refine ⟨hl, fun i hi => ?_⟩
   rw [← recN_at (D := D) hi, h, recN_at (by omega)]
 · rintro ⟨rfl, h⟩
   unfold recN
   exact List.map_congr_left fun k hk => h k (List.mem_range.1 hk)
theorem recL_eq {K K' : Lks} {m m' : Nat} : recL K m = recL K' m' ↔ m = m' ∧ ∀ i, i < m → lkrOf K i = lkrOf K' i := by
 constructor
 · intro h
   have hl : m = m' := by have := congrArg List.length h; rwa [recL_len, recL_len] at this
   refine ⟨hl, fun i hi => ?_⟩
   rw [← recL_at (K := K) hi, h, recL_at (by omega)]
 · rintro ⟨rfl, h⟩
   unfold recL
   exact List.map_congr_left fun k hk => h k (List.mem_range.1 hk)
theorem ndsR_of {N : List Ndr} {SA : Nat → Option Addr} {SC : Nat → Nat} {k : Nat} : ndrOf (ndsR N SA SC) k = N.getD k zNd := by
 unfold ndrOf ndsR
 simp only [edl_self]
theorem lksR_of {L : List Lkr} {CA : Nat → Option Addr} {CC : Nat → Nat} {k : Nat} : lkrOf (lksR L CA CC) k = L.getD k zLk := by
 unfold lkrOf lksR
 simp only [edl_self]
theorem list_range {α : Type} (L : List α) (z : α) : (List.range L.length).map (fun k => L.getD k z) = L := by
 apply List.ext_getElem (by simp)
 intro i h1 h2
 simp [List.getD, h2]
theorem ndsR_rec (N : List Ndr) (SA : Nat → Option Addr) (SC : Nat → Nat) : recN (ndsR N SA SC) N.length = N := by
 unfold recN
 rw [show ndrOf (ndsR N SA SC) = fun k => N.getD k zNd from funext fun k => ndsR_of]
 exact list_range N zNd
theorem lksR_rec (L : List Lkr) (CA : Nat → Option Addr) (CC : Nat → Nat) : recL (lksR L CA CC) L.length = L := by
 unfold recL
 rw [show lkrOf (lksR L CA CC) = fun k => L.getD k zLk from funext fun k => lksR_of]
 exact list_range L zLk
def netS (D : Nds) (n : Nat) (K : Lks) (m : Nat) (D' : Nds) (n' : Nat) (K' : Lks) (m' : Nat) : Prop := recN D n = recN D' n' ∧ recL K m = recL K' m'
theorem fnd_eq {X X' : Nat → ByteArray} {n : Nat} (h : ∀ i, i < n → X i = X' i) (s : ByteArray) : fnd X n s = fnd X' n s := by
 obtain ⟨k, hk, e⟩ := fnd_spec X' n s
 rw [e]
 refine fnd_at ⟨hk.1, fun j hj => ?_, fun hkn => ?_⟩
 · have := hk.2.1 j hj
   have hkl := hk.1
   show decide (X j = s) = false
   rw [h j (by omega)]; exact this
 · have := hk.2.2 hkn
   show decide (X k = s) = true
   rw [h k hkn]; exact this
theorem tabOK_eq {n : Nat} {X Y X' Y' : Nat → Int} (h : ∀ k, k < n → X k = X' k ∧ Y k = Y' k) (ht : TabOK n X Y) : TabOK n X' Y' := by
 refine ⟨ht.1, ht.2.1, fun k hk => ?_⟩
 have := ht.2.2 k hk
 unfold goodAt at *
 rw [(h k hk).1, (h k hk).2] at this
 refine ⟨this.1, this.2.1, fun h0 => ?_⟩
 have h3 := this.2.2 h0
 rw [(h (k - 1) (by omega)).1, (h (k - 1) (by omega)).2] at h3
 exact h3
theorem curveOK_eq {n : Nat} {X Y X' Y' : Nat → Int} {a b : Int} (h : ∀ k, k < n → X k = X' k ∧ Y k = Y' k) (ht : CurveOK n X Y a b) : CurveOK n X' Y' a b := by
 obtain ⟨h1, h2, h3, h4, h5⟩ := ht
 have hn := h1.1
 refine ⟨tabOK_eq h h1, ?_, ?_, ?_, ?_⟩
 · rw [← (h 0 (by omega)).1]; exact h2
 · rw [← (h 0 (by omega)).2]; exact h3
 · rw [← (h (n - 1) (by omega)).1]; exact h4
 · rw [← (h (n - 1) (by omega)).2]; exact h5
theorem ndP_eq {D D' : Nds} {i j : Nat} (h : ndrOf D i = ndrOf D' j) (hp : ndP D i) : ndP D' j := by
 obtain ⟨e1, e2, e3, e4, e5, e6, e7, e8, e9, e10⟩ := ndrOf_eq.1 h
 unfold ndP at *
 rw [e1, e2, e3, e4, e5, e6, e7, e8, e9] at hp
 refine ⟨hp.1, hp.2.1, hp.2.2.1, hp.2.2.2.1, ?_⟩
 rw [e9] at e10
 rcases hp.2.2.2.2 with h1 | ⟨h1, h2, h3, h4⟩
 · exact .inl h1
 · refine .inr ⟨h1, h2, curveOK_eq e10 h3, ?_⟩
   have hn := h3.1.1
   rcases h4 with h4 | ⟨a, b, c, d⟩
   · exact .inl h4
   · exact .inr ⟨a, b, c, by rw [← (e10 (D'.SN j - 1) (by omega)).2]; exact d⟩
theorem lkP_eq {K K' : Lks} {i j : Nat} (h : lkrOf K i = lkrOf K' j) (hp : lkP K i) : lkP K' j := by
 obtain ⟨e1, e2, e3, e4, e5, e6, e7, e8, e9, e10, e11, e12⟩ := lkrOf_eq.1 h
 unfold lkP at *
 rw [e1, e2, e3, e4, e5, e6, e7, e8, e9, e10, e11] at hp
 rw [e11] at e12
 refine ⟨hp.1, hp.2.1, hp.2.2.1, hp.2.2.2.1, hp.2.2.2.2.1, hp.2.2.2.2.2.1, ?_⟩
 rcases hp.2.2.2.2.2.2 with h1 | h1 | h1 | ⟨h1, h2, h3, h4, h5, h6, h7⟩
 · exact .inl h1
 · exact .inr (.inl h1)
 · exact .inr (.inr (.inl h1))
 · refine .inr (.inr (.inr ⟨h1, h2, h3, h4, h5, h6, tabOK_eq e12 h7.1, fun k hk => ?_⟩))
   rw [← (e12 k hk).1, ← (e12 k hk).2]
   exact h7.2 k hk
theorem nm_of {D D' : Nds} {i j : Nat} (h : ndrOf D i = ndrOf D' j) : D.Nm i = D'.Nm j := (ndrOf_eq.1 h).1
theorem netP_eq {D D' : Nds} {K K' : Lks} {n n' m m' : Nat} (h : netS D n K m D' n' K' m') (hp : netP D n K m) : netP D' n' K' m' := by
 obtain ⟨h1, h2⟩ := h
 obtain ⟨rfl, hN⟩ := recN_eq.1 h1
 obtain ⟨rfl, hL⟩ := recL_eq.1 h2
 have fN : ∀ s, fnd D.Nm n s = fnd D'.Nm n s := fnd_eq fun i hi => nm_of (hN i hi)
 have fL : ∀ s, fnd K.Nm m s = fnd K'.Nm m s := fnd_eq fun i hi => (lkrOf_eq.1 (hL i hi)).1
 refine ⟨hp.1, hp.2.1, fun i hi => ?_, fun i hi => ?_⟩
 · obtain ⟨a, b⟩ := hp.2.2.1 i hi
   refine ⟨ndP_eq (hN i hi) a, ?_⟩
   rw [← fN, ← nm_of (hN i hi)]; exact b
 · obtain ⟨a, b, c, d, e⟩ := hp.2.2.2 i hi
   obtain ⟨e1, e2, e3, _⟩ := lkrOf_eq.1 (hL i hi)
   refine ⟨lkP_eq (hL i hi) a, ?_, ?_, ?_, ?_⟩
   · rw [← fL, ← e1]; exact b
   · rw [← fN, ← e2]; exact c
   · rw [← fN, ← e3]; exact d
   · rw [← fN, ← e2]
     have hq := fnd_bd D.Nm n (K.Fr i)
     rcases hq with hq | ⟨k, hk, hq, _⟩
     · omega
     · rw [hq, Int.toNat_natCast] at e ⊢
       rw [← (ndrOf_eq.1 (hN k hk)).2.1]
       exact e
end Go.Proofs.YtghefgifhebniaaGreatDoor

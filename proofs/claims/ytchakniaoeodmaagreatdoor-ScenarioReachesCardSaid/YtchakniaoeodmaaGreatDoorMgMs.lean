/- What the other claim does not hold. -/
import Derived.Test.YtchakniaoeodmaaGreatDoorMgAw
import Derived.Test.YtchakniaoeodmaaGreatDoorMgAl
import Derived.Test.YtchakniaoeodmaaGreatDoorMgS
namespace Go.Proofs.YtchakniaoeodmaaGreatDoor
open Go.RowKit
set_option linter.unusedVariables false
set_option linter.unusedSimpArgs false

/-- Changes that are accepted one after the other. -/
def okAll : List Ndr → List Lkr → List Chr → Prop
  | _, _, [] => True
  | N, L, c :: cs => apOK N L c ∧ okAll (pN N c) (pL L c) cs
def reN (N : List Ndr) (cs : List Chr) : List Ndr := cs.foldl pN N
def reL (L : List Lkr) (cs : List Chr) : List Lkr := cs.foldl pL L
theorem okAll_perm : ∀ (cs : List Chr) {N N' : List Ndr} {L L' : List Lkr}, N.Perm N' → L.Perm L' → okAll N L cs → okAll N' L' cs ∧ (reN N cs).Perm (reN N' cs) ∧ (reL L cs).Perm (reL L' cs)
  | [], _, _, _, _, hN, hL, _ => ⟨trivial, hN, hL⟩
  | c :: cs, _, _, _, _, hN, hL, h => by
    obtain ⟨a, b⟩ := okAll_perm cs (pN_perm c hN) (pL_perm c hL) h.2
    exact ⟨⟨h.1.perm hN hL, a⟩, b⟩
theorem okAll_app : ∀ (cs ds : List Chr) {N : List Ndr} {L : List Lkr}, okAll N L cs → okAll (reN N cs) (reL L cs) ds → okAll N L (cs ++ ds)
  | [], _, _, _, _, h => h
  | c :: cs, ds, _, _, h, h' => ⟨h.1, okAll_app cs ds h.2 h'⟩
theorem reN_app (N : List Ndr) (cs ds : List Chr) : reN N (cs ++ ds) = reN (reN N cs) ds := List.foldl_append ..
theorem reL_app (L : List Lkr) (cs ds : List Chr) : reL L (cs ++ ds) = reL (reL L cs) ds := List.foldl_append ..
theorem filter_nodup {α : Type} {f : α → ByteArray} {p : α → Bool} {L : List α} (h : (L.map f).Nodup) : ((L.filter p).map f).Nodup := List.Nodup.sublist ((List.filter_sublist).map f) h
theorem snoc_nodup {α : Type} {f : α → ByteArray} {L : List α} {a : α} (h : (L.map f).Nodup) (ha : ∀ b, b ∈ L → f b ≠ f a) : ((L ++ [a]).map f).Nodup := by
  rw [List.map_append, List.nodup_append]
  refine ⟨h, by simp, ?_⟩
  intro x hx y hy
  obtain ⟨b, hb, rfl⟩ := List.mem_map.1 hx
  have : y = f a := by simpa using hy
  rw [this]
  exact ha b hb
/-- Links are dropped. -/
theorem seg1 {N : List Ndr} : ∀ (ls : List Lkr) {Lc : List Lkr}, VS N Lc → (∀ l, l ∈ ls → l ∈ Lc) → (ls.map (·.nm)).Nodup →
    okAll N Lc (ls.map fun l => dropLc l.nm) ∧ reN N (ls.map fun l => dropLc l.nm) = N ∧ VS N (reL Lc (ls.map fun l => dropLc l.nm)) ∧ ∀ l, l ∈ reL Lc (ls.map fun l => dropLc l.nm) ↔ l ∈ Lc ∧ ∀ k, k ∈ ls → l.nm ≠ k.nm
  | [], Lc, h, _, _ => ⟨trivial, rfl, h, fun l => ⟨fun q => ⟨q, fun k hk => absurd hk (by simp)⟩, fun q => q.1⟩⟩
  | a :: ls, Lc, h, hm, hn => by
    have hn' := List.nodup_cons.1 (show (a.nm :: ls.map (·.nm)).Nodup from hn)
    have e1 : pN N (dropLc a.nm) = N := pN_of (.inr (.inr rfl))
    have e2 : pL Lc (dropLc a.nm) = wioL Lc a.nm := pL_6 rfl
    have hv : VS N (wioL Lc a.nm) := h.links (fun l q => (mem_wioL.1 q).1) (filter_nodup h.ln) (Nat.le_trans (List.length_filter_le _ _) h.l400)
    have ok : apOK N Lc (dropLc a.nm) := ⟨⟨by simp [dropLc], by simp [dropLc]⟩, fun q => absurd q (by simp [dropLc]), fun q => absurd q (by simp [dropLc]), fun q => absurd q (by simp [dropLc]), fun _ => ⟨a, hm a (by simp), rfl⟩, fun q => absurd q (by simp [dropLc]), by rw [e1, e2]; exact hv⟩
    obtain ⟨b1, b2, b3, b4⟩ := seg1 ls hv (fun l hl => mem_wioL.2 ⟨hm l (by simp [hl]), fun e => hn'.1 (List.mem_map.2 ⟨l, hl, e⟩)⟩) hn'.2
    refine ⟨⟨ok, by rw [e1, e2]; exact b1⟩, ?_, ?_, fun l => ?_⟩
    · show reN (pN N (dropLc a.nm)) _ = N
      rw [e1]; exact b2
    · show VS N (reL (pL Lc (dropLc a.nm)) _)
      rw [e2]; exact b3
    · show l ∈ reL (pL Lc (dropLc a.nm)) _ ↔ _
      rw [e2, b4 l, mem_wioL]
      constructor
      · rintro ⟨⟨q1, q2⟩, q3⟩
        refine ⟨q1, fun k hk => ?_⟩
        rcases List.mem_cons.1 hk with rfl | hk
        · exact q2
        · exact q3 k hk
      · rintro ⟨q1, q2⟩
        exact ⟨⟨q1, q2 a (by simp)⟩, fun k hk => q2 k (by simp [hk])⟩
/-- Nodes are dropped. -/
theorem seg2 {L : List Lkr} : ∀ (xs : List Ndr) {Nc : List Ndr}, VS Nc L → (∀ x, x ∈ xs → x ∈ Nc ∧ ¬ zG2 L x.nm) → (xs.map (·.nm)).Nodup →
    okAll Nc L (xs.map fun x => zW8 x.nm) ∧ reL L (xs.map fun x => zW8 x.nm) = L ∧ VS (reN Nc (xs.map fun x => zW8 x.nm)) L ∧ ∀ x, x ∈ reN Nc (xs.map fun x => zW8 x.nm) ↔ x ∈ Nc ∧ ∀ k, k ∈ xs → x.nm ≠ k.nm
  | [], Nc, h, _, _ => ⟨trivial, rfl, h, fun l => ⟨fun q => ⟨q, fun k hk => absurd hk (by simp)⟩, fun q => q.1⟩⟩
  | a :: xs, Nc, h, hm, hn => by
    have hn' := List.nodup_cons.1 (show (a.nm :: xs.map (·.nm)).Nodup from hn)
    have e1 : pL L (zW8 a.nm) = L := pL_of (.inr (.inr rfl))
    have e2 : pN Nc (zW8 a.nm) = wioN Nc a.nm := pN_3 rfl
    have hj := (hm a (by simp)).2
    have hv : VS (wioN Nc a.nm) L := by
      refine ⟨Nat.le_trans (List.length_filter_le _ _) h.n300, h.l400, fun x q => h.nd x (mem_wioN.1 q).1, filter_nodup h.nn, h.lk, h.ln, fun l q => ?_, fun l q => ?_⟩
      · obtain ⟨x, hx, e, g⟩ := h.fr l q
        exact ⟨x, mem_wioN.2 ⟨hx, fun e' => hj ⟨l, q, .inl (e.symm.trans e')⟩⟩, e, g⟩
      · obtain ⟨x, hx, e⟩ := h.tn l q
        exact ⟨x, mem_wioN.2 ⟨hx, fun e' => hj ⟨l, q, .inr (e.symm.trans e')⟩⟩, e⟩
    have ok : apOK Nc L (zW8 a.nm) := ⟨⟨by simp [zW8], by simp [zW8]⟩, fun q => absurd q (by simp [zW8]), fun _ => ⟨a, (hm a (by simp)).1, rfl⟩, fun q => absurd q (by simp [zW8]), fun q => absurd q (by simp [zW8]), fun _ => hj, by rw [e1, e2]; exact hv⟩
    obtain ⟨b1, b2, b3, b4⟩ := seg2 xs hv (fun l hl => ⟨mem_wioN.2 ⟨(hm l (by simp [hl])).1, fun e => hn'.1 (List.mem_map.2 ⟨l, hl, e⟩)⟩, (hm l (by simp [hl])).2⟩) hn'.2
    refine ⟨⟨ok, by rw [e1, e2]; exact b1⟩, ?_, ?_, fun l => ?_⟩
    · show reL (pL L (zW8 a.nm)) _ = L
      rw [e1]; exact b2
    · show VS (reN (pN Nc (zW8 a.nm)) _) L
      rw [e2]; exact b3
    · show l ∈ reN (pN Nc (zW8 a.nm)) _ ↔ _
      rw [e2, b4 l, mem_wioN]
      constructor
      · rintro ⟨⟨q1, q2⟩, q3⟩
        refine ⟨q1, fun k hk => ?_⟩
        rcases List.mem_cons.1 hk with rfl | hk
        · exact q2
        · exact q3 k hk
      · rintro ⟨q1, q2⟩
        exact ⟨⟨q1, q2 a (by simp)⟩, fun k hk => q2 k (by simp [hk])⟩
/-- Nodes are set. -/
theorem seg3 {L : List Lkr} : ∀ (xs : List Ndr) {Nc : List Ndr}, VS Nc L → (∀ x, x ∈ xs → vNd x ∧ hasN Nc x.nm ∧ ∀ l, l ∈ L → l.fr = x.nm → x.kd ≠ 3) → (xs.map (·.nm)).Nodup →
    okAll Nc L (xs.map fun x => ⟨2, x, zLk⟩) ∧ reL L (xs.map fun x => ⟨2, x, zLk⟩) = L ∧ VS (reN Nc (xs.map fun x => ⟨2, x, zLk⟩)) L ∧ ∀ x, x ∈ reN Nc (xs.map fun x => ⟨2, x, zLk⟩) ↔ (x ∈ Nc ∧ ∀ k, k ∈ xs → x.nm ≠ k.nm) ∨ x ∈ xs
  | [], Nc, h, _, _ => ⟨trivial, rfl, h, fun l => ⟨fun q => .inl ⟨q, fun k hk => absurd hk (by simp)⟩, fun q => q.elim (fun q => q.1) (fun q => absurd q (by simp))⟩⟩
  | a :: xs, Nc, h, hm, hn => by
    have hn' := List.nodup_cons.1 (show (a.nm :: xs.map (·.nm)).Nodup from hn)
    have e1 : pL L ⟨2, a, zLk⟩ = L := pL_of (.inr (.inl rfl))
    have e2 : pN Nc ⟨2, a, zLk⟩ = wioN Nc a.nm ++ [a] := pN_2 rfl
    obtain ⟨g1, g2, g3⟩ := hm a (by simp)
    have hlen : (wioN Nc a.nm ++ [a]).length = Nc.length := by
      obtain ⟨k, hk, _, _, q⟩ := zO4 h.nn g2
      rw [← q, List.length_append, List.length_eraseIdx]
      simp [hk]
      omega
    have hv : VS (wioN Nc a.nm ++ [a]) L := by
      refine ⟨by rw [hlen]; exact h.n300, h.l400, fun x q => ?_, snoc_nodup (filter_nodup h.nn) (fun b hb => (mem_wioN.1 hb).2), h.lk, h.ln, fun l q => ?_, fun l q => ?_⟩
      · rcases List.mem_append.1 q with q | q
        · exact h.nd x (mem_wioN.1 q).1
        · rw [List.mem_singleton.1 q]; exact g1
      · by_cases e : l.fr = a.nm
        · exact ⟨a, by simp, e.symm, g3 l q e⟩
        · obtain ⟨x, hx, e', g⟩ := h.fr l q
          exact ⟨x, List.mem_append.2 (.inl (mem_wioN.2 ⟨hx, fun e2 => e (e'.symm.trans e2)⟩)), e', g⟩
      · by_cases e : l.tn = a.nm
        · exact ⟨a, by simp, e.symm⟩
        · obtain ⟨x, hx, e'⟩ := h.tn l q
          exact ⟨x, List.mem_append.2 (.inl (mem_wioN.2 ⟨hx, fun e2 => e (e'.symm.trans e2)⟩)), e'⟩
    have ok : apOK Nc L ⟨2, a, zLk⟩ := ⟨⟨by simp, by simp⟩, fun q => absurd q (by simp), fun _ => g2, fun q => absurd q (by simp), fun q => absurd q (by simp), fun q => absurd q (by simp), by rw [e1, e2]; exact hv⟩
    obtain ⟨b1, b2, b3, b4⟩ := seg3 xs hv (fun x hx => by
      obtain ⟨u1, ⟨y, hy, ey⟩, u3⟩ := hm x (by simp [hx])
      exact ⟨u1, ⟨y, List.mem_append.2 (.inl (mem_wioN.2 ⟨hy, fun e => hn'.1 (List.mem_map.2 ⟨x, hx, ey.symm.trans e⟩)⟩)), ey⟩, u3⟩) hn'.2
    refine ⟨⟨ok, by rw [e1, e2]; exact b1⟩, ?_, ?_, fun x => ?_⟩
    · show reL (pL L ⟨2, a, zLk⟩) _ = L
      rw [e1]; exact b2
    · show VS (reN (pN Nc ⟨2, a, zLk⟩) _) L
      rw [e2]; exact b3
    · show x ∈ reN (pN Nc ⟨2, a, zLk⟩) _ ↔ _
      rw [e2, b4 x]
      constructor
      · rintro (⟨q1, q3⟩ | q)
        · rcases List.mem_append.1 q1 with q1 | q1
          · refine .inl ⟨(mem_wioN.1 q1).1, fun k hk => ?_⟩
            rcases List.mem_cons.1 hk with rfl | hk
            · exact (mem_wioN.1 q1).2
            · exact q3 k hk
          · exact .inr (by rw [List.mem_singleton.1 q1]; simp)
        · exact .inr (by simp [q])
      · rintro (⟨q1, q2⟩ | q)
        · exact .inl ⟨List.mem_append.2 (.inl (mem_wioN.2 ⟨q1, q2 a (by simp)⟩)), fun k hk => q2 k (by simp [hk])⟩
        · rcases List.mem_cons.1 q with rfl | q
          · exact .inl ⟨by simp, fun k hk e => hn'.1 (List.mem_map.2 ⟨k, hk, e.symm⟩)⟩
          · exact .inr q
/-- Nodes are added. -/
theorem seg4 {L : List Lkr} : ∀ (xs : List Ndr) {Nc : List Ndr}, VS Nc L → (∀ x, x ∈ xs → vNd x ∧ ¬ hasN Nc x.nm) → (xs.map (·.nm)).Nodup → Nc.length + xs.length ≤ 300 →
    okAll Nc L (xs.map fun x => ⟨1, x, zLk⟩) ∧ reL L (xs.map fun x => ⟨1, x, zLk⟩) = L ∧ VS (reN Nc (xs.map fun x => ⟨1, x, zLk⟩)) L ∧ ∀ x, x ∈ reN Nc (xs.map fun x => ⟨1, x, zLk⟩) ↔ x ∈ Nc ∨ x ∈ xs
  | [], Nc, h, _, _, _ => ⟨trivial, rfl, h, fun l => ⟨fun q => .inl q, fun q => q.elim (fun q => q) (fun q => absurd q (by simp))⟩⟩
  | a :: xs, Nc, h, hm, hn, hl => by
    have hn' := List.nodup_cons.1 (show (a.nm :: xs.map (·.nm)).Nodup from hn)
    have e1 : pL L ⟨1, a, zLk⟩ = L := pL_of (.inl rfl)
    have e2 : pN Nc ⟨1, a, zLk⟩ = Nc ++ [a] := pN_1 rfl
    obtain ⟨g1, g2⟩ := hm a (by simp)
    have hl' : Nc.length + (xs.length + 1) ≤ 300 := by simpa using hl
    have hv : VS (Nc ++ [a]) L := by
      refine ⟨by rw [List.length_append]; simp; omega, h.l400, fun x q => ?_, snoc_nodup h.nn (fun b hb e => g2 ⟨b, hb, e⟩), h.lk, h.ln, fun l q => ?_, fun l q => ?_⟩
      · rcases List.mem_append.1 q with q | q
        · exact h.nd x q
        · rw [List.mem_singleton.1 q]; exact g1
      · obtain ⟨x, hx, e', g⟩ := h.fr l q
        exact ⟨x, List.mem_append.2 (.inl hx), e', g⟩
      · obtain ⟨x, hx, e'⟩ := h.tn l q
        exact ⟨x, List.mem_append.2 (.inl hx), e'⟩
    have ok : apOK Nc L ⟨1, a, zLk⟩ := ⟨⟨by simp, by simp⟩, fun _ => g2, fun q => absurd q (by simp), fun q => absurd q (by simp), fun q => absurd q (by simp), fun q => absurd q (by simp), by rw [e1, e2]; exact hv⟩
    obtain ⟨b1, b2, b3, b4⟩ := seg4 xs hv (fun x hx => by
      obtain ⟨u1, u2⟩ := hm x (by simp [hx])
      refine ⟨u1, ?_⟩
      rintro ⟨y, hy, ey⟩
      rcases List.mem_append.1 hy with q | q
      · exact u2 ⟨y, q, ey⟩
      · rw [List.mem_singleton.1 q] at ey
        exact hn'.1 (List.mem_map.2 ⟨x, hx, ey.symm⟩)) hn'.2 (by rw [List.length_append]; simp; omega)
    refine ⟨⟨ok, by rw [e1, e2]; exact b1⟩, ?_, ?_, fun x => ?_⟩
    · show reL (pL L ⟨1, a, zLk⟩) _ = L
      rw [e1]; exact b2
    · show VS (reN (pN Nc ⟨1, a, zLk⟩) _) L
      rw [e2]; exact b3
    · show x ∈ reN (pN Nc ⟨1, a, zLk⟩) _ ↔ _
      rw [e2, b4 x]
      simp only [List.mem_append, List.mem_cons, List.not_mem_nil, or_false]
      exact or_assoc
/-- Links are added. -/
theorem seg5 {N : List Ndr} : ∀ (ls : List Lkr) {Lc : List Lkr}, VS N Lc → (∀ l, l ∈ ls → vLk l ∧ ¬ hasL Lc l.nm ∧ (∃ x, x ∈ N ∧ x.nm = l.fr ∧ x.kd ≠ 3) ∧ ∃ x, x ∈ N ∧ x.nm = l.tn) → (ls.map (·.nm)).Nodup → Lc.length + ls.length ≤ 400 →
    okAll N Lc (ls.map fun l => ⟨4, zNd, l⟩) ∧ reN N (ls.map fun l => ⟨4, zNd, l⟩) = N ∧ VS N (reL Lc (ls.map fun l => ⟨4, zNd, l⟩)) ∧ ∀ l, l ∈ reL Lc (ls.map fun l => ⟨4, zNd, l⟩) ↔ l ∈ Lc ∨ l ∈ ls
  | [], Lc, h, _, _, _ => ⟨trivial, rfl, h, fun l => ⟨fun q => .inl q, fun q => q.elim (fun q => q) (fun q => absurd q (by simp))⟩⟩
  | a :: ls, Lc, h, hm, hn, hl => by
    have hn' := List.nodup_cons.1 (show (a.nm :: ls.map (·.nm)).Nodup from hn)
    have e1 : pN N ⟨4, zNd, a⟩ = N := pN_of (.inl rfl)
    have e2 : pL Lc ⟨4, zNd, a⟩ = Lc ++ [a] := pL_4 rfl
    obtain ⟨g1, g2, g3, g4⟩ := hm a (by simp)
    have hl' : Lc.length + (ls.length + 1) ≤ 400 := by simpa using hl
    have hv : VS N (Lc ++ [a]) := by
      refine ⟨h.n300, by rw [List.length_append]; simp; omega, h.nd, h.nn, fun x q => ?_, snoc_nodup h.ln (fun b hb e => g2 ⟨b, hb, e⟩), fun l q => ?_, fun l q => ?_⟩
      · rcases List.mem_append.1 q with q | q
        · exact h.lk x q
        · rw [List.mem_singleton.1 q]; exact g1
      · rcases List.mem_append.1 q with q | q
        · exact h.fr l q
        · rw [List.mem_singleton.1 q]; exact g3
      · rcases List.mem_append.1 q with q | q
        · exact h.tn l q
        · rw [List.mem_singleton.1 q]; exact g4
    have ok : apOK N Lc ⟨4, zNd, a⟩ := ⟨⟨by simp, by simp⟩, fun q => absurd q (by simp), fun q => absurd q (by simp), fun _ => g2, fun q => absurd q (by simp), fun q => absurd q (by simp), by rw [e1, e2]; exact hv⟩
    obtain ⟨b1, b2, b3, b4⟩ := seg5 ls hv (fun x hx => by
      obtain ⟨u1, u2, u3, u4⟩ := hm x (by simp [hx])
      refine ⟨u1, ?_, u3, u4⟩
      rintro ⟨y, hy, ey⟩
      rcases List.mem_append.1 hy with q | q
      · exact u2 ⟨y, q, ey⟩
      · rw [List.mem_singleton.1 q] at ey
        exact hn'.1 (List.mem_map.2 ⟨x, hx, ey.symm⟩)) hn'.2 (by rw [List.length_append]; simp; omega)
    refine ⟨⟨ok, by rw [e1, e2]; exact b1⟩, ?_, ?_, fun x => ?_⟩
    · show reN (pN N ⟨4, zNd, a⟩) _ = N
      rw [e1]; exact b2
    · show VS N (reL (pL Lc ⟨4, zNd, a⟩) _)
      rw [e2]; exact b3
    · show x ∈ reL (pL Lc ⟨4, zNd, a⟩) _ ↔ _
      rw [e2, b4 x]
      simp only [List.mem_append, List.mem_cons, List.not_mem_nil, or_false]
      exact or_assoc
/-- A DIFFERENCE LEADS FROM ONE NETWORK TO THE OTHER. -/
theorem reach_ok {N N' : List Ndr} {L L' : List Lkr} (h : VS N L) (h' : VS N' L') : okAll N L (dfF N L N' L') ∧ (reN N (dfF N L N' L')).Perm N' ∧ (reL L (dfF N L N' L')).Perm L' := by
  classical
  unfold dfF
  -- links that are not in the other one
  obtain ⟨a1, a2, a3, a4⟩ := seg1 (N := N) (L.filter fun l => decide (l ∉ L')) h (fun l hl => (List.mem_filter.1 hl).1) (filter_nodup h.ln)
  have m1 : ∀ l, l ∈ reL L ((L.filter fun l => decide (l ∉ L')).map fun l => dropLc l.nm) ↔ l ∈ L ∧ l ∈ L' := fun l => by
    rw [a4 l]
    constructor
    · rintro ⟨q1, q2⟩
      refine ⟨q1, Classical.byContradiction fun q3 => ?_⟩
      exact q2 l (List.mem_filter.2 ⟨q1, decide_eq_true q3⟩) rfl
    · rintro ⟨q1, q2⟩
      refine ⟨q1, fun k hk e => ?_⟩
      obtain ⟨k1, k2⟩ := List.mem_filter.1 hk
      rw [zL8 h.ln q1 k1 e] at q2
      exact of_decide_eq_true k2 q2
  generalize (L.filter fun l => decide (l ∉ L')).map (fun l => dropLc l.nm) = c1 at a1 a2 a3 m1 ⊢
  clear a4
  -- nodes whose names are not in the other one
  obtain ⟨b1, b2, b3, b4⟩ := seg2 (L := reL L c1) (N.filter fun x => decide (¬ hasN N' x.nm)) a3 (fun x hx => by
    obtain ⟨q1, q2⟩ := List.mem_filter.1 hx
    refine ⟨q1, ?_⟩
    rintro ⟨l, hl, e | e⟩
    · obtain ⟨y, hy, ey, _⟩ := h'.fr l ((m1 l).1 hl).2
      exact of_decide_eq_true q2 ⟨y, hy, ey.trans e⟩
    · obtain ⟨y, hy, ey⟩ := h'.tn l ((m1 l).1 hl).2
      exact of_decide_eq_true q2 ⟨y, hy, ey.trans e⟩) (filter_nodup h.nn)
  have m2 : ∀ x, x ∈ reN N ((N.filter fun x => decide (¬ hasN N' x.nm)).map fun x => zW8 x.nm) ↔ x ∈ N ∧ hasN N' x.nm := fun x => by
    rw [b4 x]
    constructor
    · rintro ⟨q1, q2⟩
      exact ⟨q1, Classical.byContradiction fun q3 => q2 x (List.mem_filter.2 ⟨q1, decide_eq_true q3⟩) rfl⟩
    · rintro ⟨q1, q2⟩
      refine ⟨q1, fun k hk e => ?_⟩
      obtain ⟨k1, k2⟩ := List.mem_filter.1 hk
      rw [e] at q2
      exact of_decide_eq_true k2 q2
  generalize (N.filter fun x => decide (¬ hasN N' x.nm)).map (fun x => zW8 x.nm) = c2 at b1 b2 b3 m2 ⊢
  clear b4
  -- nodes that are set
  obtain ⟨d1, d2, d3, d4⟩ := seg3 (L := reL L c1) (N'.filter fun x => decide (hasN N x.nm ∧ x ∉ N)) b3 (fun x hx => by
    obtain ⟨q1, q2⟩ := List.mem_filter.1 hx
    obtain ⟨⟨y, hy, ey⟩, q4⟩ := of_decide_eq_true q2
    refine ⟨h'.nd x q1, ⟨y, (m2 y).2 ⟨hy, x, q1, ey.symm⟩, ey⟩, fun l hl e => ?_⟩
    obtain ⟨z, hz, ez, kz⟩ := h'.fr l ((m1 l).1 hl).2
    rw [← zL8 h'.nn hz q1 (ez.trans e)]
    exact kz) (filter_nodup h'.nn)
  have m3 : ∀ x, x ∈ reN (reN N c2) ((N'.filter fun x => decide (hasN N x.nm ∧ x ∉ N)).map fun x => ⟨2, x, zLk⟩) ↔ x ∈ N' ∧ hasN N x.nm := fun x => by
    rw [d4 x]
    constructor
    · rintro (⟨q1, q2⟩ | q)
      · obtain ⟨q3, y, hy, ey⟩ := (m2 x).1 q1
        have hyN : y ∈ N := Classical.byContradiction fun q5 => q2 y (List.mem_filter.2 ⟨hy, decide_eq_true ⟨⟨x, q3, ey.symm⟩, q5⟩⟩) ey.symm
        rw [← zL8 h.nn hyN q3 ey]
        exact ⟨hy, y, hyN, rfl⟩
      · obtain ⟨q1, q2⟩ := List.mem_filter.1 q
        exact ⟨q1, (of_decide_eq_true q2).1⟩
    · rintro ⟨q1, q2⟩
      by_cases g : x ∈ N
      · refine .inl ⟨(m2 x).2 ⟨g, x, q1, rfl⟩, fun k hk e => ?_⟩
        obtain ⟨k1, k2⟩ := List.mem_filter.1 hk
        rw [zL8 h'.nn q1 k1 e] at g
        exact (of_decide_eq_true k2).2 g
      · exact .inr (List.mem_filter.2 ⟨q1, decide_eq_true ⟨q2, g⟩⟩)
  generalize (N'.filter fun x => decide (hasN N x.nm ∧ x ∉ N)).map (fun x => (⟨2, x, zLk⟩ : Chr)) = c3 at d1 d2 d3 m3 ⊢
  clear d4
  -- nodes that are added
  have hp : ((reN (reN N c2) c3) ++ N'.filter fun x => decide (¬ hasN N x.nm)).Perm N' := by
    refine zU7 ?_ (zH5 h'.nn) fun x => ?_
    · rw [List.nodup_append]
      refine ⟨zH5 d3.nn, List.Nodup.sublist List.filter_sublist (zH5 h'.nn), ?_⟩
      intro x hx y hy e
      subst e
      exact of_decide_eq_true (List.mem_filter.1 hy).2 ((m3 x).1 hx).2
    · rw [List.mem_append, m3 x, List.mem_filter, decide_eq_true_eq]
      constructor
      · rintro (q | q) <;> exact q.1
      · intro q
        by_cases g : hasN N x.nm
        · exact .inl ⟨q, g⟩
        · exact .inr ⟨q, g⟩
  obtain ⟨e1, e2, e3, e4⟩ := seg4 (L := reL L c1) (N'.filter fun x => decide (¬ hasN N x.nm)) d3 (fun x hx => by
    obtain ⟨q1, q2⟩ := List.mem_filter.1 hx
    refine ⟨h'.nd x q1, ?_⟩
    rintro ⟨y, hy, ey⟩
    have := ((m3 y).1 hy).2
    rw [ey] at this
    exact of_decide_eq_true q2 this) (filter_nodup h'.nn) (by rw [← List.length_append, hp.length_eq]; exact h'.n300)
  have m4 : ∀ x, x ∈ reN (reN (reN N c2) c3) ((N'.filter fun x => decide (¬ hasN N x.nm)).map fun x => ⟨1, x, zLk⟩) ↔ x ∈ N' := fun x => by
    rw [e4 x, ← List.mem_append]
    exact hp.mem_iff
  generalize (N'.filter fun x => decide (¬ hasN N x.nm)).map (fun x => (⟨1, x, zLk⟩ : Chr)) = c4 at e1 e2 e3 m4 ⊢
  clear e4 hp
  -- links that are added
  have hq : (reL L c1 ++ L'.filter fun l => decide (l ∉ L)).Perm L' := by
    refine zU7 ?_ (zH5 h'.ln) fun x => ?_
    · rw [List.nodup_append]
      refine ⟨zH5 a3.ln, List.Nodup.sublist List.filter_sublist (zH5 h'.ln), ?_⟩
      intro x hx y hy e
      subst e
      exact of_decide_eq_true (List.mem_filter.1 hy).2 ((m1 x).1 hx).1
    · rw [List.mem_append, m1 x, List.mem_filter, decide_eq_true_eq]
      constructor
      · rintro (q | q)
        · exact q.2
        · exact q.1
      · intro q
        by_cases g : x ∈ L
        · exact .inl ⟨g, q⟩
        · exact .inr ⟨q, g⟩
  obtain ⟨f1, f2, f3, f4⟩ := seg5 (N := reN (reN (reN N c2) c3) c4) (L'.filter fun l => decide (l ∉ L)) e3 (fun l hl => by
    obtain ⟨q1, q2⟩ := List.mem_filter.1 hl
    refine ⟨h'.lk l q1, ?_, ?_, ?_⟩
    · rintro ⟨k, hk, ek⟩
      obtain ⟨k1, k2⟩ := (m1 k).1 hk
      rw [zL8 h'.ln k2 q1 ek] at k1
      exact of_decide_eq_true q2 k1
    · obtain ⟨x, hx, e, g⟩ := h'.fr l q1
      exact ⟨x, (m4 x).2 hx, e, g⟩
    · obtain ⟨x, hx, e⟩ := h'.tn l q1
      exact ⟨x, (m4 x).2 hx, e⟩) (filter_nodup h'.ln) (by rw [← List.length_append, hq.length_eq]; exact h'.l400)
  generalize (L'.filter fun l => decide (l ∉ L)).map (fun l => (⟨4, zNd, l⟩ : Chr)) = c5 at f1 f2 f3 f4 ⊢
  have k1 : reL (reL L c1) c2 = reL L c1 := b2
  have k2 : reL (reL L c1) c3 = reL L c1 := d2
  have k3 : reL (reL L c1) c4 = reL L c1 := e2
  refine ⟨okAll_app _ _ a1 ?_, ?_, ?_⟩
  · rw [a2]
    refine okAll_app _ _ b1 ?_
    rw [k1]
    refine okAll_app _ _ d1 ?_
    rw [k2]
    refine okAll_app _ _ e1 ?_
    rw [k3]
    exact f1
  · rw [reN_app, a2, reN_app, reN_app, reN_app, f2]
    exact zU7 (zH5 e3.nn) (zH5 h'.nn) m4
  · rw [reL_app, reL_app, k1, reL_app, k2, reL_app, k3]
    refine zU7 (zH5 f3.ln) (zH5 h'.ln) fun l => ?_
    rw [f4 l, ← List.mem_append]
    exact hq.mem_iff
theorem recC_succ (Kd : Nat → Int) (D : Nds) (K : Lks) (n : Nat) : recC Kd D K (n + 1) = recC Kd D K n ++ [chrR (Kd n) D n K n] := by unfold recC; rw [List.range_succ, List.map_append]; rfl
/-- Several changes, one after the other, as they are done. -/
noncomputable def aN (N : List Ndr) (cs : List Chr) : List Ndr := cs.foldl opN N
noncomputable def aL (L : List Lkr) (cs : List Chr) : List Lkr := cs.foldl opL L
theorem aN_snoc (N : List Ndr) (cs : List Chr) (c : Chr) : aN N (cs ++ [c]) = opN (aN N cs) c := by unfold aN; rw [List.foldl_append]; rfl
theorem aL_snoc (L : List Lkr) (cs : List Chr) (c : Chr) : aL L (cs ++ [c]) = opL (aL L cs) c := by unfold aL; rw [List.foldl_append]; rfl
/-- All changes are accepted. -/
def okA : List Ndr → List Lkr → List Chr → Prop
  | _, _, [] => True
  | N, L, c :: cs => apE N L c = 0 ∧ okA (opN N c) (opL L c) cs
theorem okA_snoc : ∀ (cs : List Chr) {N : List Ndr} {L : List Lkr} {c : Chr}, okA N L (cs ++ [c]) ↔ okA N L cs ∧ apE (aN N cs) (aL L cs) c = 0
  | [], N, L, c => by simp [okA, aN, aL]
  | d :: cs, N, L, c => by
    show apE N L d = 0 ∧ okA (opN N d) (opL L d) (cs ++ [c]) ↔ (apE N L d = 0 ∧ okA (opN N d) (opL L d) cs) ∧ apE (aN (opN N d) cs) (aL (opL L d) cs) c = 0
    rw [okA_snoc cs, and_assoc]
theorem okA_all : ∀ (cs : List Chr) {N : List Ndr} {L : List Lkr}, VS N L → (okA N L cs ↔ okAll N L cs)
  | [], N, L, _ => Iff.rfl
  | c :: cs, N, L, h => by
    show apE N L c = 0 ∧ okA (opN N c) (opL L c) cs ↔ apOK N L c ∧ okAll (pN N c) (pL L c) cs
    rw [zU1 h]
    constructor
    · rintro ⟨a, b⟩
      obtain ⟨p1, p2, v⟩ := op_ok h a
      exact ⟨a, (okAll_perm cs p1 p2 ((okA_all cs v).1 b)).1⟩
    · rintro ⟨a, b⟩
      obtain ⟨p1, p2, v⟩ := op_ok h a
      exact ⟨a, (okA_all cs v).2 (okAll_perm cs p1.symm p2.symm b).1⟩
theorem aN_re : ∀ (cs : List Chr) {N : List Ndr} {L : List Lkr}, VS N L → okA N L cs → VS (aN N cs) (aL L cs) ∧ (aN N cs).Perm (reN N cs) ∧ (aL L cs).Perm (reL L cs)
  | [], N, L, h, _ => ⟨h, List.Perm.refl _, List.Perm.refl _⟩
  | c :: cs, N, L, h, a => by
    obtain ⟨p1, p2, v⟩ := op_ok h ((zU1 h).1 a.1)
    obtain ⟨v', r1, r2⟩ := aN_re cs v a.2
    have hk := okAll_perm cs p1 p2 ((okA_all cs v).1 a.2)
    exact ⟨v', r1.trans hk.2.1, r2.trans hk.2.2⟩
/-- The difference leads from one network to the other. -/
theorem reach_a {N N' : List Ndr} {L L' : List Lkr} (h : VS N L) (h' : VS N' L') : okA N L (dfF N L N' L') ∧ VS (aN N (dfF N L N' L')) (aL L (dfF N L N' L')) ∧ (aN N (dfF N L N' L')).Perm N' ∧ (aL L (dfF N L N' L')).Perm L' := by
  obtain ⟨a, b, c⟩ := reach_ok h h'
  have a' := (okA_all _ h).2 a
  obtain ⟨v, p1, p2⟩ := aN_re _ h a'
  exact ⟨a', v, p1.trans b, p2.trans c⟩
/-- The difference to a network depends on the order of the lists alone. -/
theorem dfF_to {N N1 N' : List Ndr} {L L1 L' : List Lkr} (h1 : VS N1 L1) (h' : VS N' L') (hN : N.Perm N1) (hL : L.Perm L1) (h : VS N L) : okA N1 L1 (dfF N L N' L') ∧ VS (aN N1 (dfF N L N' L')) (aL L1 (dfF N L N' L')) ∧ (aN N1 (dfF N L N' L')).Perm N' ∧ (aL L1 (dfF N L N' L')).Perm L' := by
  obtain ⟨a, b, c⟩ := reach_ok h h'
  obtain ⟨a1, b1, c1⟩ := okAll_perm _ hN hL a
  have a' := (okA_all _ h1).2 a1
  obtain ⟨v, p1, p2⟩ := aN_re _ h1 a'
  exact ⟨a', v, (p1.trans b1.symm).trans b, (p2.trans c1.symm).trans c⟩
theorem dfF_sym {N N' : List Ndr} {L L' : List Lkr} (h : VS N L) (h' : VS N' L') : dfF N L N' L' = [] ↔ dfF N' L' N L = [] := by
  rw [dfF_nil h h', dfF_nil h' h]
  exact ⟨fun q => ⟨q.1.symm, q.2.symm⟩, fun q => ⟨q.1.symm, q.2.symm⟩⟩
theorem alk_df {N N' : List Ndr} {L L' : List Lkr} (h : VS N L) (h' : VS N' L') : alkP N L N' L' ↔ dfF N L N' L' = [] := by rw [alk_perm h h', dfF_nil h h']
end Go.Proofs.YtchakniaoeodmaaGreatDoor

/- States in another order: what reports say of them. Plain but for the types. -/
import Derived.Test.YtfgakaielfekoaaGreatDoorRpn
import Derived.Test.YtfgakaielfekoaaGreatDoorMgD
namespace Go.Proofs.YtfgakaielfekoaaGreatDoor
open Go.RowKit
set_option linter.unusedVariables false
set_option linter.unusedSimpArgs false

/-- The states at other places. -/
def Sts.re (S : Sts) (f : Nat → Nat) : Sts := ⟨fun k => S.VA (f k), fun k => S.VN (f k), fun k => S.VC (f k), fun k => S.V (f k), fun k => S.PA (f k), fun k => S.PN (f k), fun k => S.PC (f k), fun k => S.P (f k), fun k => S.SA (f k), fun k => S.SN (f k), fun k => S.SC (f k), fun k => S.S (f k), fun k => S.OA (f k), fun k => S.ON (f k), fun k => S.OC (f k), fun k => S.O (f k)⟩
theorem re_stP (D : Nds) (n : Nat) (K : Lks) (m : Nat) (S : Sts) (f : Nat → Nat) (k : Nat) : stP D n K m (S.re f) k = stP D n K m S (f k) := rfl
/-- Places that take each of some numbers, and no others. -/
def Onto (f : Nat → Nat) (t s : Nat) : Prop := (∀ k, k < t → f k < s) ∧ ∀ j, j < s → ∃ k, k < t ∧ f k = j
theorem re_stsP {D : Nds} {n : Nat} {K : Lks} {m : Nat} {S : Sts} {f : Nat → Nat} {t s : Nat} (h : Onto f t s) : stsP D n K m (S.re f) t ↔ stsP D n K m S s := by
  refine ⟨fun g => ⟨g.1, fun j hj => ?_⟩, fun g => ⟨g.1, fun k hk => g.2 (f k) (h.1 k hk)⟩⟩
  obtain ⟨k, hk, e⟩ := h.2 j hj
  have := g.2 k hk
  rw [re_stP, e] at this
  exact this
theorem re_mx {F : Nat → Int} {f : Nat → Nat} {t s : Nat} (h : Onto f t s) : mx (fun k => F (f k)) t = mx F s :=
  mx_same (fun k hk => ⟨f k, h.1 k hk, rfl⟩) fun j hj => by
    obtain ⟨k, hk, e⟩ := h.2 j hj
    exact ⟨k, hk, by rw [e]⟩
theorem re_nout {D : Nds} {S : Sts} {f : Nat → Nat} {t s : Nat} (h : Onto f t s) : ∀ n, nout D (S.re f) t n = nout D S s n
  | 0 => rfl
  | n + 1 => by
    have e1 : mxV (S.re f) t n = mxV S s n := re_mx (F := fun k => S.V k n) h
    have e2 : mxP (S.re f) t n = mxP S s n := re_mx (F := fun k => S.P k n) h
    show nout D (S.re f) t n ++ _ = nout D S s n ++ _
    rw [re_nout h n, e1, e2]
theorem re_nodes {D : Nds} {n : Nat} {K : Lks} {m : Nat} {S : Sts} {f : Nat → Nat} {t s : Nat} (h : Onto f t s) {R : List ByteArray} {er : Int} (hi : NodesIs D n K m (S.re f) t R er) : NodesIs D n K m S s R er := by
  have h0 : t = 0 ↔ s = 0 := by
    constructor
    · rintro rfl
      rcases Nat.eq_zero_or_pos s with g | g
      · exact g
      · obtain ⟨k, hk, _⟩ := h.2 0 g
        omega
    · rintro rfl
      rcases Nat.eq_zero_or_pos t with g | g
      · exact g
      · have := h.1 0 g
        omega
  rcases hi with ⟨a, b, c⟩ | ⟨a, a2, b, c⟩ | ⟨a, a2, b, c⟩
  · exact .inl ⟨fun g => a ((re_stsP h).2 g), b, c⟩
  · exact .inr (.inl ⟨(re_stsP h).1 a, h0.1 a2, b, c⟩)
  · exact .inr (.inr ⟨(re_stsP h).1 a, by omega, by rw [b, re_nout h], c⟩)
theorem onto_rev (s : Nat) : Onto (fun k => s - 1 - k) s s := ⟨fun k hk => by show s - 1 - k < s; omega, fun j hj => ⟨s - 1 - j, by omega, by show s - 1 - (s - 1 - j) = j; omega⟩⟩
theorem onto_two (s : Nat) : Onto (fun k => if k < s then k else k - s) (s + s) s := ⟨fun k hk => by show (if k < s then k else k - s) < s; split <;> omega, fun j hj => ⟨j, by omega, by show (if j < s then j else j - s) = j; rw [if_pos hj]⟩⟩
/-- The cells of some states. -/
def stc (S : Sts) (f : Nat → Nat) (n : Nat) : List Value := (List.range n).flatMap fun k => S.vals (f k)
theorem vals_len (S : Sts) (k : Nat) : (S.vals k).length = 4 := rfl
theorem stc_succ (S : Sts) (f : Nat → Nat) (n : Nat) : stc S f (n + 1) = stc S f n ++ S.vals (f n) := by
  unfold stc
  rw [List.range_succ, List.flatMap_append]
  simp
theorem stc_len (S : Sts) (f : Nat → Nat) : ∀ n, (stc S f n).length = n * 4
  | 0 => rfl
  | n + 1 => by
    rw [stc_succ, List.length_append, stc_len S f n, vals_len]
    omega
theorem stc_at (S : Sts) (f : Nat → Nat) : ∀ {n k j : Nat}, k < n → j < 4 → (stc S f n)[k * 4 + j]? = (S.vals (f k))[j]?
  | 0, _, _, h, _ => absurd h (Nat.not_lt_zero _)
  | n + 1, k, j, h, hj => by
    rw [stc_succ]
    have hl := stc_len S f n
    by_cases g : k = n
    · subst g
      rw [List.getElem?_append_right (by omega), hl]
      congr 1
      omega
    · rw [List.getElem?_append_left (by omega)]
      exact stc_at S f (by omega) hj
theorem stc_two (S : Sts) (s : Nat) : ∀ t, t ≤ s → stc S (fun k => if k < s then k else k - s) (s + t) = stc S (fun k => k) s ++ stc S (fun k => k) t
  | 0, _ => by
    show stc S _ s = _ ++ []
    rw [List.append_nil]
    unfold stc
    have : ∀ k ∈ List.range s, S.vals (if k < s then k else k - s) = S.vals k := fun k hk => by rw [if_pos (List.mem_range.1 hk)]
    have hc : ∀ (l : List Nat), (∀ k ∈ l, S.vals (if k < s then k else k - s) = S.vals k) → (l.flatMap fun k => S.vals (if k < s then k else k - s)) = l.flatMap fun k => S.vals k := by
      intro l
      induction l with
      | nil => intro _; rfl
      | cons x l ih =>
        intro h
        rw [List.flatMap_cons, List.flatMap_cons, h x (List.mem_cons_self ..), ih fun k hk => h k (List.mem_cons_of_mem _ hk)]
    exact hc _ this
  | t + 1, h => by
    rw [← Nat.add_assoc, stc_succ, stc_two S s t (by omega), stc_succ, List.append_assoc]
    have e : (if s + t < s then s + t else s + t - s) = t := by rw [if_neg (by omega)]; omega
    show _ ++ (_ ++ S.vals (if s + t < s then s + t else s + t - s)) = _
    rw [e]
theorem stc_cell (S : Sts) (f : Nat → Nat) : ∀ {n : Nat}, ∀ u ∈ stc S f n, u.oneCell' = true := by
  intro n u hu
  unfold stc at hu
  rw [List.mem_flatMap] at hu
  obtain ⟨k, _, hu⟩ := hu
  simp [Sts.vals] at hu
  rcases hu with rfl | rfl | rfl | rfl <;> rfl
theorem addr_addS (b off j : Nat) : (⟨b, off, none⟩ : Addr).add j = ⟨b, off + j, none⟩ := by
  unfold Addr.add
  by_cases h : j = 0
  · subst h; rfl
  · simp [h]
theorem st_news {w : World} {b off n : Nat} {S : Sts} (ht : StAt w b off n S) : ∀ j u, (stc S (fun k => k) n)[j]? = some u → w.cell? ((⟨b, off, none⟩ : Addr).add j) = some u := by
  intro j u hj
  have hlen : j < (stc S (fun k => k) n).length := by
    rcases Nat.lt_or_ge j (stc S (fun k => k) n).length with h | h
    · exact h
    · rw [List.getElem?_eq_none h] at hj; cases hj
  rw [stc_len] at hlen
  have hk : j / 4 < n := by omega
  have h1 := stc_at S (fun k => k) (j := j % 4) hk (by omega)
  rw [show j / 4 * 4 + j % 4 = j by omega, hj] at h1
  have := (ht.2 (j / 4) hk).1 (j % 4) u h1.symm
  rw [addr_addS]
  rw [show off + j / 4 * 4 + j % 4 = off + j by omega] at this
  exact this
/-- A row of states that a call owns lies as states do. -/
theorem own_states {w : World} {base n cap : Nat} {A : Option Addr} {S : Sts} {f : Nat → Nat} (h : w.ownsRow base 49 4 (.slice A n cap) n (stc S f n)) (h2 : n ≤ 2000) (hL : ∀ k, k < n → StL w S (f k)) : StIn w A n (S.re f) := by
  refine ⟨by omega, ?_⟩
  rcases h.2 with ⟨hv, h0⟩ | ⟨g, cap', cur, hv, _, _, _, _⟩
  · exact .inl h0
  · injection hv with hA _ _
    subst hA
    refine .inr ⟨g, 0, rfl, (h.lt g rfl).2, fun k hk => ⟨fun j v hj => ?_, hL k hk⟩⟩
    have hj4 : j < 4 := by
      have := (List.getElem?_eq_some_iff.1 hj).1
      rwa [vals_len] at this
    rw [Nat.zero_add, h.cellAt (k * 4 + j) (by omega), stc_at S f hk hj4]
    exact hj
theorem infoSt : (Tryz.prog.info? 49).map (fun i => (i.zero, i.size, i.bytes)) = some (some (.agg #[.slice none 0 0, .slice none 0 0, .slice none 0 0, .slice none 0 0]), 4, 96) := by kernel_rfl
theorem h63_st {a b : Nat} (ha : a ≤ 2000) (hb : b ≤ 2000) : a + b ≤ maxLen := by simp only [maxLen]; omega
theorem hby_st {a b : Nat} (ha : a ≤ 2000) (hb : b ≤ 2000) : (a + b) * 96 ≤ 140737488355328 := by omega
end Go.Proofs.YtfgakaielfekoaaGreatDoor

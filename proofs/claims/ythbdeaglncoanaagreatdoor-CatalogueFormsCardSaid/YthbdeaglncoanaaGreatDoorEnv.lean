/- What the library's variables hold, and strconv at them. -/
import Derived.Test.YthbdeaglncoanaaGreatDoorBase
import Derived.Test.YthbdeaglncoanaaGreatDoorNumeral
import Derived.Test.YthbdeaglncoanaaGreatDoorShelf
import Derived.Lib.AppendIntMem
namespace Go.Proofs.YthbdeaglncoanaaGreatDoor
open Go.RowKit
set_option linter.unusedVariables false
set_option linter.unusedSimpArgs false

/-- What the library's variables hold. -/
def Env (w : World) : Prop := Lib.TabIs Tryz.prog w "internal/strconv.uint64pow10" .u64 Lib.pow10Tab ∧ (∃ tp p, w.var? Tryz.prog "strconv.ErrSyntax" = some #[.iface tp p]) ∧ (∃ tp p, w.var? Tryz.prog "strconv.ErrRange" = some #[.iface tp p])
theorem var_below {P : Program} {w w' : World} {n : String} {cs : Array Value} (h : w.var? P n = some cs) (hb : Below w.heap.size w w') : w'.var? P n = some cs := by
  unfold World.var? at h ⊢
  cases hg : P.globalNamed n with
  | none => rw [hg] at h; cases h
  | some g =>
    rw [hg] at h
    have hlt : g < w.heap.size := by
      rcases Nat.lt_or_ge g w.heap.size with h1 | h1
      · exact h1
      · simp only [Option.bind_some, Array.getElem?_eq_none h1] at h; cases h
    simp only [Option.bind_some, hb.block g hlt]
    exact h
theorem Env.below {w w' : World} (h : Env w) (hb : Below w.heap.size w w') : Env w' := by
  obtain ⟨h1, ⟨tp, p, h2⟩, ⟨tq, q, h3⟩⟩ := h
  exact ⟨var_below h1 hb, ⟨tp, p, var_below h2 hb⟩, ⟨tq, q, var_below h3 hb⟩⟩
theorem Env.at {w w' : World} {B : Nat} (h : Env w) (hB : w.heap.size ≤ B) (hb : Below B w w') : Env w' := h.below (hb.mono hB)

theorem titoa (n : Int) (h0 : -9223372036854775808 ≤ n) (h1 : n ≤ 9223372036854775807) (w : World) (hE : Env w) :
    Calls Tryz.prog 25 #[.int .i64 n] w fun e w' => e = .returned (.string ⟨(Lib.itoa n).toArray⟩) ∧ Below w.heap.size w w' := by
  refine (Tryz.strconv_Itoa n h0 h1 w hE.1).mono ?_
  rintro e w' ⟨he, k, os, rfl⟩
  exact ⟨he, Lib.below_grow _ _ (Nat.le_refl _) _ _⟩
theorem tatoi_ok (s : ByteArray) (hmax : s.size ≤ 8388608) (v : Int) (h : Lib.atoiAll s.data.toList = .ok v) (w : World) :
    Calls Tryz.prog 72 #[.string s] w fun e w' => e = .returned (.tuple #[.int .i64 v, .nilIface]) ∧ Below w.heap.size w w' := by
  refine (Tryz.strconv_Atoi_ok s (by omega) v h w).mono ?_
  rintro e w' ⟨he, rfl | ⟨t, rfl⟩⟩
  · exact ⟨he, Below.refl _ _⟩
  · exact ⟨he, Lib.bytesWorld_below _ _ _⟩
theorem tatoi_err (s : ByteArray) (hmax : s.size ≤ 8388608) (h : ∀ v, Lib.atoiAll s.data.toList ≠ .ok v) : ∃ n0 : Int, ∀ w, Env w →
    Calls Tryz.prog 72 #[.string s] w fun e w' => ∃ N, e = .returned (.tuple #[.int .i64 n0, .iface 151 (.pointer (some ⟨N, 0, none⟩))]) ∧ Below w.heap.size w w' := by
  cases hc : Lib.atoiAll s.data.toList
  · rename_i v
    exact absurd hc (h v)
  · refine ⟨0, fun w hE => ?_⟩
    obtain ⟨tp, p, hv⟩ := hE.2.1
    refine (Any.strconv_Atoi_syntax_var Tryz.laysC172 s (by omega) hc tp p w hv).mono ?_
    rintro e w' ⟨N, he, _, _, hb⟩
    exact ⟨N, he, hb⟩
  · refine ⟨Lib.atoiSat s.data.toList, fun w hE => ?_⟩
    obtain ⟨tp, p, hv⟩ := hE.2.2
    refine (Tryz.strconv_Atoi_range_var s (by omega) hc tp p w hv).mono ?_
    rintro e w' ⟨N, he, _, _, hb⟩
    exact ⟨N, he, hb⟩
theorem bytes_ext {a b : ByteArray} (h : a.toList = b.toList) : a = b := by
  rw [ByteArray.toList_eq, ByteArray.toList_eq] at h
  obtain ⟨⟨l⟩⟩ := a
  obtain ⟨⟨m⟩⟩ := b
  have : l = m := h
  rw [this]
end Go.Proofs.YthbdeaglncoanaaGreatDoor

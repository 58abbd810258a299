/- What the library's variables hold, and the package's Read. -/
import Derived.Test.YtfldmnikdejekaaGreatDoorBase
import Derived.Test.YtfldmnikdejekaaGreatDoorNumeral
import Derived.Test.YtfldmnikdejekaaGreatDoorShelf
import Derived.Lib.AppendIntMem
namespace Go.Proofs.YtfldmnikdejekaaGreatDoor
open Go.RowKit
set_option linter.unusedVariables false
set_option linter.unusedSimpArgs false

/-- What the library's variables hold. -/
def Env5 (w : World) : Prop := Lib.TabIs Tryz.prog w "internal/strconv.uint64pow10" .u64 Lib.pow10Tab ∧ (∃ tp p, w.var? Tryz.prog "strconv.ErrSyntax" = some #[.iface tp p]) ∧ (∃ tp p, w.var? Tryz.prog "strconv.ErrRange" = some #[.iface tp p])
theorem var_below5 {P : Program} {w w' : World} {n : String} {cs : Array Value} (h : w.var? P n = some cs) (hb : Below w.heap.size w w') : w'.var? P n = some cs := by
  unfold World.var? at h ⊢
  cases hg : P.globalNamed n with
  | none => rw [hg] at h; cases h
  | some g =>
    rw [hg] at h
    have hlt : g < w.heap.size := by
      rcases Nat.lt_or_ge g w.heap.size with h1 | h1
      · exact h1
      · simp only [Option.bind_some, Array.getElem?_eq_none h1] at h; cases h
    simp only [Option.bind_some, hb.block g hlt]
    exact h
theorem Env5.below {w w' : World} (h : Env5 w) (hb : Below w.heap.size w w') : Env5 w' := by
  obtain ⟨h1, ⟨tp, p, h2⟩, ⟨tq, q, h3⟩⟩ := h
  exact ⟨var_below5 h1 hb, ⟨tp, p, var_below5 h2 hb⟩, ⟨tq, q, var_below5 h3 hb⟩⟩
theorem Env5.at {w w' : World} {B : Nat} (h : Env5 w) (hB : w.heap.size ≤ B) (hb : Below B w w') : Env5 w' := h.below (hb.mono hB)

theorem titoa5 (n : Int) (h0 : -9223372036854775808 ≤ n) (h1 : n ≤ 9223372036854775807) (w : World) (hE : Env5 w) :
    Calls Tryz.prog 96 #[.int .i64 n] w fun e w' => e = .returned (.string ⟨(Lib.itoa n).toArray⟩) ∧ Below w.heap.size w w' := by
  refine (Tryz.strconv_Itoa n h0 h1 w hE.1).mono ?_
  rintro e w' ⟨he, k, os, rfl⟩
  exact ⟨he, Lib.below_grow _ _ (Nat.le_refl _) _ _⟩
theorem tatoi_ok (s : ByteArray) (hmax : s.size ≤ 1000) (v : Int) (h : Lib.atoiAll s.data.toList = .ok v) (w : World) :
    Calls Tryz.prog 95 #[.string s] w fun e w' => e = .returned (.tuple #[.int .i64 v, .nilIface]) ∧ Below w.heap.size w w' := by
  refine (Tryz.strconv_Atoi_ok s (by omega) v h w).mono ?_
  rintro e w' ⟨he, rfl | ⟨t, rfl⟩⟩
  · exact ⟨he, Below.refl _ _⟩
  · exact ⟨he, Lib.bytesWorld_below _ _ _⟩
theorem tatoi_err (s : ByteArray) (hmax : s.size ≤ 1000) (h : ∀ v, Lib.atoiAll s.data.toList ≠ .ok v) : ∃ n0 : Int, ∀ w, Env5 w →
    Calls Tryz.prog 95 #[.string s] w fun e w' => ∃ N, e = .returned (.tuple #[.int .i64 n0, .iface 251 (.pointer (some ⟨N, 0, none⟩))]) ∧ Below w.heap.size w w' := by
  cases hc : Lib.atoiAll s.data.toList
  · rename_i v
    exact absurd hc (h v)
  · refine ⟨0, fun w hE => ?_⟩
    obtain ⟨tp, p, hv⟩ := hE.2.1
    refine (Any.strconv_Atoi_syntax_var Tryz.laysC172 s (by omega) hc tp p w hv).mono ?_
    rintro e w' ⟨N, he, _, _, hb⟩
    exact ⟨N, he, hb⟩
  · refine ⟨Lib.atoiSat s.data.toList, fun w hE => ?_⟩
    obtain ⟨tp, p, hv⟩ := hE.2.2
    refine (Tryz.strconv_Atoi_range_var s (by omega) hc tp p w hv).mono ?_
    rintro e w' ⟨N, he, _, _, hb⟩
    exact ⟨N, he, hb⟩
theorem arr_list (t : List UInt8) : (⟨t.toArray⟩ : ByteArray).data.toList = t := by simp
theorem of_list {s : ByteArray} {t : List UInt8} (h : t = s.data.toList) : (⟨t.toArray⟩ : ByteArray) = s := by
  subst h; obtain ⟨⟨l⟩⟩ := s; rfl
theorem bytes_ext {a b : ByteArray} (h : a.toList = b.toList) : a = b := by
  rw [ByteArray.toList_eq, ByteArray.toList_eq] at h
  obtain ⟨⟨l⟩⟩ := a
  obtain ⟨⟨m⟩⟩ := b
  have : l = m := h
  rw [this]
theorem trim_unsg (t : List UInt8) : Lib.trimPrefix t [45] = unsg t := by
  unfold Lib.trimPrefix Lib.hasPrefix unsg
  cases t with
  | nil => rfl
  | cons c r =>
    by_cases h : c = 45
    · subst h; rfl
    · have h1 : ([45] : List UInt8).isPrefixOf (c :: r) = false := by simp [List.isPrefixOf, Ne.symm h]
      rw [h1]
      simp [h]

/-- What Read answers: the label, the number, the error. -/
structure RdIs (s : ByteArray) (l : ByteArray) (n e : Int) : Prop where
  out : (500 < s.size ∧ l = ByteArray.empty ∧ n = 0 ∧ e = 4) ∨
    (s.size ≤ 500 ∧ Lib.lastIndexByte s 32 < 1 ∧ l = ByteArray.empty ∧ n = 0 ∧ e = 7) ∨
    (s.size ≤ 500 ∧ ∃ k : Nat, 1 ≤ k ∧ k < s.size ∧ Lib.lastIndexByte s 32 = (k : Int) ∧
      (((∃ v, Canon (s.extract (k + 1) s.size).data.toList v ∧ n = v) ∧ l = s.extract 0 k ∧ e = 0) ∨
       ((∀ v, ¬ Canon (s.extract (k + 1) s.size).data.toList v) ∧ l = ByteArray.empty ∧ n = 0 ∧ e = 7)))
theorem RdIs.uniq {s l l' : ByteArray} {n n' e e' : Int} (h : RdIs s l n e) (h' : RdIs s l' n' e') : l = l' ∧ n = n' ∧ e = e' := by
  rcases h.out with ⟨a, rfl, rfl, rfl⟩ | ⟨a, b, rfl, rfl, rfl⟩ | ⟨a, k, k1, k2, k3, c⟩ <;> rcases h'.out with ⟨a', rfl, rfl, rfl⟩ | ⟨a', b', rfl, rfl, rfl⟩ | ⟨a', k', k1', k2', k3', c'⟩ <;> try omega
  · exact ⟨rfl, rfl, rfl⟩
  · exact ⟨rfl, rfl, rfl⟩
  · obtain rfl : k = k' := by omega
    rcases c with ⟨⟨v, hv, rfl⟩, rfl, rfl⟩ | ⟨hn, rfl, rfl, rfl⟩ <;> rcases c' with ⟨⟨v', hv', rfl⟩, rfl, rfl⟩ | ⟨hn', rfl, rfl, rfl⟩
    · exact ⟨rfl, canon_unique hv hv', rfl⟩
    · exact absurd hv (hn' _)
    · exact absurd hv' (hn _)
    · exact ⟨rfl, rfl, rfl⟩
theorem last_cases (s : ByteArray) : Lib.lastIndexByte s 32 < 1 ∨ ∃ k : Nat, 1 ≤ k ∧ k < s.size ∧ Lib.lastIndexByte s 32 = (k : Int) := by
  rcases Lib.lastIndexByte_spec s 32 with ⟨e, _⟩ | ⟨i, hi, e, _⟩
  · exact .inl (by omega)
  · by_cases h : 1 ≤ i
    · exact .inr ⟨i, h, hi, e⟩
    · exact .inl (by omega)
theorem ext_size (s : ByteArray) (a b : Nat) (hb : b ≤ s.size) : (s.extract a b).size = b - a := by rw [ByteArray.size_extract]; omega
set_option maxHeartbeats 2000000 in
theorem tread (s : ByteArray) (hs : s.size ≤ 1000) : ∃ (l : ByteArray) (n e : Int), RdIs s l n e ∧ ∀ w, Env5 w →
    Calls Tryz.prog 32 #[.string s] w fun e' w' => e' = .returned (.tuple #[.string l, .int .i64 n, .int .i64 e]) ∧ Below w.heap.size w w' := by
  have S1 := Lib.hid fun w => Tryz.strings_LastIndexByte s 32 (by omega) w
  by_cases h5 : 500 < s.size
  · refine ⟨ByteArray.empty, 0, 4, ⟨.inl ⟨h5, rfl, rfl, rfl⟩⟩, fun w hE => ?_⟩
    have t1 : decide ((500 : Int) < (s.size : Int)) = true := decide_eq_true (by omega)
    have t2 : decide (500 < s.size) = true := decide_eq_true h5
    clear h5 hE hs
    go_enter Tryz.func32, Tryz.ntmps32
    go_wp2_with fail
    go_ret3
    exact ⟨rfl, by (repeat' (first | assumption | exact Below.refl _ _ | exact Below.size (by assumption) | (refine Below.setCell ?_ ?_ _) | (refine Below.alloc ?_ ?_ _) | (refine Below.drew ?_) | (refine below_drewN ?_ _) | (refine Below.trans ?_ (Below.mono ‹Below _ _ _› ?_)) | omega | (simp; done) | (simp; omega) | (simp at *; omega)))⟩
  · have t1 : decide ((500 : Int) < (s.size : Int)) = false := decide_eq_false (by omega)
    have t2 : decide (500 < s.size) = false := decide_eq_false h5
    rcases last_cases s with hk | ⟨k, k1, k2, hk⟩
    · refine ⟨ByteArray.empty, 0, 7, ⟨.inr (.inl ⟨by omega, hk, rfl, rfl, rfl⟩)⟩, fun w hE => ?_⟩
      obtain ⟨K, hK⟩ : ∃ K, K = Lib.lastIndexByte s 32 := ⟨_, rfl⟩
      rw [← hK] at hk S1
      have t3 : decide (K < 1) = true := decide_eq_true hk
      clear h5 hE hs hk hK
      go_enter Tryz.func32, Tryz.ntmps32
      go_wp2_with (first | (go_at_call 94; (with_reducible refine (S1.out _).mono ?_); rintro e w' ⟨rfl, rfl⟩))
      go_ret3
      exact ⟨rfl, by (repeat' (first | assumption | exact Below.refl _ _ | exact Below.size (by assumption) | (refine Below.setCell ?_ ?_ _) | (refine Below.alloc ?_ ?_ _) | (refine Below.drew ?_) | (refine below_drewN ?_ _) | (refine Below.trans ?_ (Below.mono ‹Below _ _ _› ?_)) | omega | (simp; done) | (simp; omega) | (simp at *; omega)))⟩
    · rw [hk] at S1
      obtain ⟨kk, hkk⟩ : ∃ z, z = k + 1 := ⟨_, rfl⟩
      obtain ⟨last, hl⟩ : ∃ z, z = s.extract kk s.size := ⟨_, rfl⟩
      have hls : last.size ≤ 1000 := by rw [hl, ext_size _ _ _ (Nat.le_refl _)]; omega
      have t3 : decide ((k : Int) < 1) = false := decide_eq_false (by omega)
      have t4 : IntKind.i64.wrap ((k : Int) + 1) = (kk : Int) := by rw [IntKind.wrap_i64]; omega
      have t5 : kk ≤ s.size := by omega
      have t6 : (kk : Int) ≤ (s.size : Int) := by omega
      have t7 : k ≤ s.size := by omega
      have t8 : (k : Int) ≤ (s.size : Int) := by omega
      have he : s.extract kk s.size = last := hl.symm
      have S4 := Lib.hid fun w => Tryz.strings_TrimPrefix last ⟨#[45]⟩ w
      have hno : (∀ v, ¬ Canon last.data.toList v) → RdIs s ByteArray.empty 0 7 := fun h => ⟨.inr (.inr ⟨by omega, k, k1, k2, hk, .inr ⟨by rw [← hkk, ← hl]; exact h, rfl, rfl, rfl⟩⟩)⟩
      by_cases hv : ∃ v, Lib.atoiAll last.data.toList = .ok v
      · obtain ⟨v, hv⟩ := hv
        have bv := Lib.atoiAll_bounds hv
        have S2 := Lib.hid fun w => tatoi_ok last hls v hv w
        have s3 := fun w hE => titoa5 v bv.1 bv.2 w hE
        obtain ⟨x, hx⟩ : ∃ x : ByteArray, x = ⟨(Lib.itoa v).toArray⟩ := ⟨_, rfl⟩
        rw [← hx] at s3
        have S3 := Lib.hid s3
        by_cases hxl : x = last
        · have ht : last.data.toList = Lib.itoa v := by rw [← hxl, hx]
          obtain ⟨y, hy⟩ : ∃ y : ByteArray, y = ⟨(Lib.trimPrefix last.data.toList (⟨#[45]⟩ : ByteArray).data.toList).toArray⟩ := ⟨_, rfl⟩
          rw [← hy] at S4
          have hys : y.size = (unsg last.data.toList).length := by
            rw [hy, show (⟨#[45]⟩ : ByteArray).data.toList = [45] from rfl, trim_unsg]
            rfl
          have hcan := canon_iff_len (n := v) ht
          by_cases h18 : y.size ≤ 18
          · have hc : Canon last.data.toList v := hcan.2 (by omega)
            refine ⟨s.extract 0 k, v, 0, ⟨.inr (.inr ⟨by omega, k, k1, k2, hk, .inl ⟨⟨v, by rw [← hkk, ← hl]; exact hc, rfl⟩, rfl, rfl⟩⟩)⟩, fun w hE => ?_⟩
            have HE := Lib.hid hE
            have u1 : decide ((18 : Int) < (y.size : Int)) = false := decide_eq_false (by omega)
            have u2 : decide (18 < y.size) = false := decide_eq_false (by omega)
            rw [hxl] at S3
            clear h5 hE hs hk hl hls hkk k1 k2 hno hv bv s3 hx hxl ht hy hys hcan h18 hc
            go_enter Tryz.func32, Tryz.ntmps32
            go_wp2_with (first | (go_at_call 94; (with_reducible refine (S1.out _).mono ?_); rintro e w' ⟨rfl, rfl⟩) | (go_at_call 95; (with_reducible refine (S2.out _).mono ?_); rintro e w2 ⟨rfl, hb2⟩) | (go_at_call 96; (with_reducible refine (S3.out _ ?_).mono ?_); (focus (exact HE.out.below hb2)); rintro e w3 ⟨rfl, hb3⟩) | (go_at_call 97; (with_reducible refine (S4.out _).mono ?_); rintro e w' ⟨rfl, rfl⟩))
            go_ret3
            refine ⟨by simp [*], ?_⟩
            (repeat' (first | assumption | exact Below.refl _ _ | exact Below.size (by assumption) | (refine Below.setCell ?_ ?_ _) | (refine Below.alloc ?_ ?_ _) | (refine Below.drew ?_) | (refine below_drewN ?_ _) | (refine Below.trans ?_ (Below.mono ‹Below _ _ _› ?_)) | omega | (simp; done) | (simp; omega) | (simp at *; omega)))
          · refine ⟨ByteArray.empty, 0, 7, hno (fun v' hc' => ?_), fun w hE => ?_⟩
            · have e1 := atoi_itoa hc'.2.1 hc'.2.2
              rw [← hc'.1, hv] at e1
              have e2 := Lib.NumEnd.ok.inj e1
              subst e2
              have := hcan.1 hc'
              omega
            have HE := Lib.hid hE
            have u1 : decide ((18 : Int) < (y.size : Int)) = true := decide_eq_true (by omega)
            have u2 : decide (18 < y.size) = true := decide_eq_true (by omega)
            rw [hxl] at S3
            clear h5 hE hs hk hl hls hkk k1 k2 hno hv bv s3 hx hxl ht hy hys hcan h18
            go_enter Tryz.func32, Tryz.ntmps32
            go_wp2_with (first | (go_at_call 94; (with_reducible refine (S1.out _).mono ?_); rintro e w' ⟨rfl, rfl⟩) | (go_at_call 95; (with_reducible refine (S2.out _).mono ?_); rintro e w2 ⟨rfl, hb2⟩) | (go_at_call 96; (with_reducible refine (S3.out _ ?_).mono ?_); (focus (exact HE.out.below hb2)); rintro e w3 ⟨rfl, hb3⟩) | (go_at_call 97; (with_reducible refine (S4.out _).mono ?_); rintro e w' ⟨rfl, rfl⟩))
            go_ret3
            refine ⟨rfl, ?_⟩
            (repeat' (first | assumption | exact Below.refl _ _ | exact Below.size (by assumption) | (refine Below.setCell ?_ ?_ _) | (refine Below.alloc ?_ ?_ _) | (refine Below.drew ?_) | (refine below_drewN ?_ _) | (refine Below.trans ?_ (Below.mono ‹Below _ _ _› ?_)) | omega | (simp; done) | (simp; omega) | (simp at *; omega)))
        · refine ⟨ByteArray.empty, 0, 7, hno (fun v' hc' => ?_), fun w hE => ?_⟩
          · have e1 := atoi_itoa hc'.2.1 hc'.2.2
            rw [← hc'.1, hv] at e1
            have e2 := Lib.NumEnd.ok.inj e1
            subst e2
            exact hxl (hx.trans (of_list hc'.1.symm))
          have HE := Lib.hid hE
          have u1 : ¬ x.toList = last.toList := fun h => hxl (bytes_ext h)
          have u2 : decide (x.toList = last.toList) = false := decide_eq_false u1
          clear h5 hE hs hk hl hls hkk k1 k2 hno hv bv s3 hx
          go_enter Tryz.func32, Tryz.ntmps32
          go_wp2_with (first | (go_at_call 94; (with_reducible refine (S1.out _).mono ?_); rintro e w' ⟨rfl, rfl⟩) | (go_at_call 95; (with_reducible refine (S2.out _).mono ?_); rintro e w2 ⟨rfl, hb2⟩) | (go_at_call 96; (with_reducible refine (S3.out _ ?_).mono ?_); (focus (exact HE.out.below hb2)); rintro e w3 ⟨rfl, hb3⟩) | (go_at_call 97; (with_reducible refine (S4.out _).mono ?_); rintro e w' ⟨rfl, rfl⟩))
          go_ret3
          refine ⟨rfl, ?_⟩
          (repeat' (first | assumption | exact Below.refl _ _ | exact Below.size (by assumption) | (refine Below.setCell ?_ ?_ _) | (refine Below.alloc ?_ ?_ _) | (refine Below.drew ?_) | (refine below_drewN ?_ _) | (refine Below.trans ?_ (Below.mono ‹Below _ _ _› ?_)) | omega | (simp; done) | (simp; omega) | (simp at *; omega)))
      · have hv' : ∀ v, Lib.atoiAll last.data.toList ≠ .ok v := fun v h => hv ⟨v, h⟩
        obtain ⟨n0, h0⟩ := tatoi_err last hls hv'
        refine ⟨ByteArray.empty, 0, 7, hno (fun v hc => hv' v ?_), fun w hE => ?_⟩
        · have e1 := atoi_itoa hc.2.1 hc.2.2
          rw [← hc.1] at e1
          exact e1
        have HE := Lib.hid hE
        have S2 := Lib.hid h0
        clear h5 hE hs hk hl hls hkk k1 k2 hno hv hv' h0
        go_enter Tryz.func32, Tryz.ntmps32
        go_wp2_with (first | (go_at_call 94; (with_reducible refine (S1.out _).mono ?_); rintro e w' ⟨rfl, rfl⟩) | (go_at_call 95; (with_reducible refine (S2.out _ ?_).mono ?_); (focus (exact HE.out)); rintro e w2 ⟨N, rfl, hb2⟩))
        go_ret3
        refine ⟨rfl, ?_⟩
        (repeat' (first | assumption | exact Below.refl _ _ | exact Below.size (by assumption) | (refine Below.setCell ?_ ?_ _) | (refine Below.alloc ?_ ?_ _) | (refine Below.drew ?_) | (refine below_drewN ?_ _) | (refine Below.trans ?_ (Below.mono ‹Below _ _ _› ?_)) | omega | (simp; done) | (simp; omega) | (simp at *; omega)))
end Go.Proofs.YtfldmnikdejekaaGreatDoor

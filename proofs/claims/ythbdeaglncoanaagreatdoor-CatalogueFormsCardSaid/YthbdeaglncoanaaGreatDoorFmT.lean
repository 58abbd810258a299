/- catalogue.Text of a catalogue. Written by gen_fmt.py. -/
import Derived.Test.YthbdeaglncoanaaGreatDoorMgFa
import Derived.Test.YthbdeaglncoanaaGreatDoorMgFb
import Derived.Test.YthbdeaglncoanaaGreatDoorBld
import Derived.Test.YthbdeaglncoanaaGreatDoorTxT
namespace Go.Proofs.YthbdeaglncoanaaGreatDoor
open Go.RowKit Go.Shelf
set_option linter.unusedVariables false
set_option linter.unusedSimpArgs false

theorem BAt.call {B b : Nat} {l : List UInt8} {w w' : World} (h : BAt B b l w) (hb : Below w.heap.size w w') : BAt B b l w' := by
  have key : ∀ {p : Value} {bs : List Value}, Lib.BuilderAtF 55 5 B b p bs w → Lib.BuilderAtF 55 5 B b p bs w' := fun h => by
    have hlt := h.lt
    obtain ⟨hB, v, hbk, hown, hne⟩ := h
    exact ⟨hB, v, (hb.block b hlt).trans hbk, hown.kept (only_of_below hb none) (by cases hv : v.ownBlock <;> simp), hne⟩
  exact h.elim (fun x => .inl (key x)) (fun x => .inr (key x))
/-- The pieces of a section, joined from the left. -/
theorem sec_join (nm a b ta tb : ByteArray) (h1 : nm.size ≤ 5000) (h2 : a.size ≤ 5000) (h3 : b.size ≤ 5000) (h4 : ta.size ≤ 5000) (h5 : tb.size ≤ 5000) : ∃ p1 p2 p3 p4 p5 p6 p7 p8 p9 p10 : ByteArray, ((⟨#[115, 101, 99, 116, 105, 111, 110, 32]⟩ : ByteArray) ++ nm = p1 ∧ p1 ++ (⟨#[32]⟩ : ByteArray) = p2 ∧ p2 ++ a = p3 ∧ p3 ++ (⟨#[32]⟩ : ByteArray) = p4 ∧ p4 ++ b = p5 ∧ p5 ++ (⟨#[10, 97, 114, 101, 97, 32]⟩ : ByteArray) = p6 ∧ p6 ++ ta = p7 ∧ p7 ++ (⟨#[10, 99, 111, 110, 118, 101, 121, 97, 110, 99, 101, 32]⟩ : ByteArray) = p8 ∧ p8 ++ tb = p9 ∧ p9 ++ (⟨#[10]⟩ : ByteArray) = p10) ∧ (((p1.size : Nat) : Int) ≤ 8388608 ∧ ((p2.size : Nat) : Int) ≤ 8388608 ∧ ((p3.size : Nat) : Int) ≤ 8388608 ∧ ((p4.size : Nat) : Int) ≤ 8388608 ∧ ((p5.size : Nat) : Int) ≤ 8388608 ∧ ((p6.size : Nat) : Int) ≤ 8388608 ∧ ((p7.size : Nat) : Int) ≤ 8388608 ∧ ((p8.size : Nat) : Int) ≤ 8388608 ∧ ((p9.size : Nat) : Int) ≤ 8388608 ∧ ((p10.size : Nat) : Int) ≤ 8388608) ∧ p10.data.toList = wSec ++ 32 :: (nm.data.toList ++ 32 :: (a.data.toList ++ 32 :: b.data.toList)) ++ 10 :: ((wAre ++ 32 :: ta.data.toList) ++ 10 :: ((wCon ++ 32 :: tb.data.toList) ++ [10])) := by
  refine ⟨_, _, _, _, _, _, _, _, _, _, ⟨rfl, rfl, rfl, rfl, rfl, rfl, rfl, rfl, rfl, rfl⟩, ?_, ?_⟩
  have ec0 : (⟨#[115, 101, 99, 116, 105, 111, 110, 32]⟩ : ByteArray).size = 8 := rfl
  have eb0 : (⟨#[32]⟩ : ByteArray).size = 1 := rfl
  have ecA : (⟨#[10, 97, 114, 101, 97, 32]⟩ : ByteArray).size = 6 := rfl
  have ecC : (⟨#[10, 99, 111, 110, 118, 101, 121, 97, 110, 99, 101, 32]⟩ : ByteArray).size = 12 := rfl
  have ecE : (⟨#[10]⟩ : ByteArray).size = 1 := rfl
  · simp only [ByteArray.size_append, ec0, eb0, ecA, ecC, ecE]
    omega
  · simp only [ByteArray.data_append, Array.toList_append]
    unfold wSec wAre wCon
    simp
theorem bl_drew {B : Nat} {w w' : World} (h : Below B w.drew w') : Below B w w' := ⟨h.os, h.tape, h.output, h.size, h.block⟩
theorem Blk.oth {w w' : World} {g b : Nat} {t : TypeId} {cs : Array Value} (h : Blk w g t cs) (hk : Lib.OthersKept 5 (some b) w w') (hg : g ≠ b) (ht : t ≠ 5) : Blk w' g t cs :=
  hk g _ h (fun e => hg (by cases e; rfl)) (fun c fz e => by cases e; exact ht rfl)
theorem secT_eq (C : Scs) (k : Nat) : secT C k = wSec ++ 32 :: ((C.Nm k).data.toList ++ 32 :: (Lib.itoa (C.Ht k) ++ 32 :: Lib.itoa (C.Pr k))) ++ 10 :: ((wAre ++ 32 :: txL (C.AX k) (C.AY k) (C.AN k)) ++ 10 :: ((wCon ++ 32 :: txL (C.BX k) (C.BY k) (C.BN k)) ++ [10])) := rfl
theorem catT_len {C : Scs} {n : Nat} (h : ∀ q, q < n → secP C q) : (catT C n).length ≤ 8300 * n := by
  rw [← rst_zero]
  exact rst_len (Nat.zero_le n) h
theorem curve_tab {n : Nat} {X Y : Nat → Int} {w : World} {A : Option Addr} (hok : TabOK n X Y) (h : TabIn w A n X Y) : ∃ b off, A = some ⟨b, off, none⟩ ∧ TabAt w b off n X Y := by
  rcases h.2 with h0 | h1
  · have := hok.1; omega
  · exact h1
set_option maxRecDepth 100000 in
set_option maxHeartbeats 8000000 in
theorem c_Text (A : Option Addr) (n c : Nat) (C : Scs) (h2 : n ≤ 2000) (hn : ∀ k, k < n → (C.Nm k).size ≤ maxLen) (w : World) (hE : Env w) (hC : ScIn w A n C) :
    Calls Tryz.prog 8 #[.slice A n c] w fun e w' => ((catP C n ∧ e = .returned (.tuple #[.string ⟨(catT C n).toArray⟩, .int .i64 0])) ∨ (¬ catP C n ∧ e = .returned (.tuple #[.string ⟨#[]⟩, .int .i64 1]))) ∧ Below w.heap.size w w' := by
  have HC := Lib.hid hC
  have HE := Lib.hid hE
  have ST := Lib.hid (tcat A n c C h2 hn w hC)
  by_cases hp : catP C n
  case neg =>
    rw [boolOf_false hp] at ST
    have HP := Lib.hid hp
    clear hp hE hC hn h2
    go_enter Tryz.func8, Tryz.ntmps8
    go_wp2_with (first
      | (go_at_call 9
         with_reducible refine ST.out.mono ?_
         rintro e w2 ⟨rfl, hb2⟩
         have HB2 := Lib.hid hb2
         clear hb2))
    go_ret2
    exact ⟨.inr ⟨HP.out, rfl⟩, HB2.out⟩
  rw [boolOf_true hp] at ST
  have HP := Lib.hid hp
  have HN : Hid (n ≤ 40) := hp.1
  clear hp hE hC hn h2
  go_enter Tryz.func8, Tryz.ntmps8
  go_upto_region 3 with (first
    | (go_at_call 9
       with_reducible refine ST.out.mono ?_
       rintro e w2 ⟨rfl, hb2⟩
       have HB2 := Lib.hid hb2
       clear hb2))
  obtain ⟨b, hb⟩ : ∃ b, w2.heap.size = b := ⟨_, rfl⟩
  have HM0 : Hid (BAt w.heap.size b (catT C 0) (w2.alloc (.cells #[.pointer none, .slice none 0 0] 55)) ∧ Below w.heap.size w (w2.alloc (.cells #[.pointer none, .slice none 0 0] 55))) := ⟨by rw [← hb]; exact BAt.new w2 HB2.out.size, HB2.out.alloc HB2.out.size _⟩
  clear HB2 ST
  go_upto_region 4 with fail
  try rw [hb]
  clear hb
  generalize w2.alloc (.cells #[.pointer none, .slice none 0 0] 55) = w3 at HM0 ⊢
  go_wp2_with fail
  go_loopw [15] (fun u wr => ∃ i : Nat, Hid (i ≤ n) ∧ u = .int .i64 i ∧ Hid (BAt w.heap.size b (catT C i) wr ∧ Below w.heap.size w wr)) (fun u _ => n - (RowKit.intOf u).toNat)
  case atStart => exact ⟨0, Nat.zero_le _, rfl, HM0⟩
  case round =>
    clear HM0
    obtain ⟨i, Hi, rfl, HM⟩ := hrel
    by_cases hlt : i < n
    case neg =>
      have T0 : decide ((i : Int) < (n : Int)) = false := by simp <;> omega
      have T0' : decide (i < n) = false := decide_eq_false hlt
      have e : i = n := by have := Hi.out; omega
      subst e
      have SS := Lib.hid fun w' => fun h h2 => Tryz.Builder_String_any_k w.heap.size b (catT C i) w' h h2
      clear hlt
      go_wp2_with (first
        | (go_at_call 26
           refine (SS.out _ HM.out.1 HM.out.2.size).mono ?_
           rintro e wz ⟨rfl, hz1, hz2, hz3⟩
           have HZ := Lib.hid (HM.out.2.trans hz2)
           clear hz1 hz2 hz3))
      go_ret2
      exact ⟨.inl ⟨HP.out, rfl⟩, HZ.out⟩
    have T0 : decide ((i : Int) < (n : Int)) = true := by simp <;> omega
    have T0' : decide (i < n) = true := decide_eq_true hlt
    obtain ⟨i', hi'⟩ : ∃ z, z = i + 1 := ⟨_, rfl⟩
    have x0 : IntKind.i64.wrap ((i : Int) + 1) = (i' : Int) := by have := HN.out; rw [IntKind.wrap_i64]; omega
    have k0 : (0 : Int) ≤ (i : Int) := by omega
    have k1 : (i : Int) < (n : Int) := by omega
    have HMS : Hid (n - (RowKit.intOf (Value.int .i64 (i' : Int))).toNat < n - (RowKit.intOf (Value.int .i64 (i : Int))).toNat) := by show _ < _; simp [RowKit.intOf]; omega
    have HI' : Hid (i' ≤ n) := by show _ ≤ _; omega
    have hsp := (HP.out.2 i hlt).1
    have hcl := catT_len (C := C) (n := i) fun q hq => (HP.out.2 q (by omega)).1
    have hq := secP_near hsp
    have hll := ln_len hsp
    obtain ⟨bk, off, rfl, hbk, hCc, htA, htB⟩ := (HC.out.below (Nat.le_refl _) HM.out.2).at hlt
    have c0 := hCc 0 _ rfl
    have c1 := hCc 1 _ rfl
    have c2 := hCc 2 _ rfl
    have c3 := hCc 3 _ rfl
    have c4 := hCc 4 _ rfl
    simp only [Nat.add_zero] at c0
    obtain ⟨ba, oa, hAA, htA⟩ := curve_tab hsp.2.2.2.2.2.1.1 htA
    obtain ⟨bb, ob, hBB, htB⟩ := curve_tab hsp.2.2.2.2.2.2.1 htB
    have XA : Hid (∀ w', Below wr.heap.size wr w' → Calls Tryz.prog 23 #[.slice (C.AA i) (C.AN i) (C.AC i)] w' fun e w'' => e = .returned (.tuple #[.string ⟨(txL (C.AX i) (C.AY i) (C.AN i)).toArray⟩, .int .i64 0]) ∧ Below w'.heap.size w' w'') := fun w' hb => by
      rw [hAA]
      exact ttext ba oa (C.AN i) (C.AC i) (C.AX i) (C.AY i) w' hsp.2.2.2.2.2.1.1 (htA.below hb htA.1) (HE.out.below (below_step HM.out.2 hb))
    have XB : Hid (∀ w', Below wr.heap.size wr w' → Calls Tryz.prog 23 #[.slice (C.BA i) (C.BN i) (C.BC i)] w' fun e w'' => e = .returned (.tuple #[.string ⟨(txL (C.BX i) (C.BY i) (C.BN i)).toArray⟩, .int .i64 0]) ∧ Below w'.heap.size w' w'') := fun w' hb => by
      rw [hBB]
      exact ttext bb ob (C.BN i) (C.BC i) (C.BX i) (C.BY i) w' hsp.2.2.2.2.2.2.1 (htB.below hb htB.1) (HE.out.below (below_step HM.out.2 hb))
    have IA : Hid (∀ w', Below w.heap.size w w' → Calls Tryz.prog 25 #[.int .i64 (C.Ht i)] w' fun e w'' => e = .returned (.string ⟨(Lib.itoa (C.Ht i)).toArray⟩) ∧ Below w'.heap.size w' w'') := fun w' hb => titoa (C.Ht i) (by have := hsp.2.1; have := hsp.2.2.1; omega) (by have := hsp.2.1; have := hsp.2.2.1; omega) w' (HE.out.below hb)
    have IB : Hid (∀ w', Below w.heap.size w w' → Calls Tryz.prog 25 #[.int .i64 (C.Pr i)] w' fun e w'' => e = .returned (.string ⟨(Lib.itoa (C.Pr i)).toArray⟩) ∧ Below w'.heap.size w' w'') := fun w' hb => titoa (C.Pr i) (by have := hsp.2.2.2.1; have := hsp.2.2.2.2.1; omega) (by have := hsp.2.2.2.1; have := hsp.2.2.2.2.1; omega) w' (HE.out.below hb)
    have HEQ : Hid (catT C i' = catT C i ++ secT C i) := by show _ = _; rw [hi']; rfl
    have hs0 := secT_eq C i
    have hl0 := secT_len hsp
    obtain ⟨S, hS⟩ : ∃ S, secT C i = S := ⟨_, rfl⟩
    rw [hS] at HEQ hs0 hl0
    obtain ⟨nm, hnm⟩ : ∃ q : ByteArray, q = C.Nm i := ⟨_, rfl⟩
    obtain ⟨h, hh⟩ : ∃ q, q = C.Ht i := ⟨_, rfl⟩
    obtain ⟨r, hr⟩ : ∃ q, q = C.Pr i := ⟨_, rfl⟩
    obtain ⟨a, ha⟩ : ∃ q : ByteArray, q = ⟨(Lib.itoa (C.Ht i)).toArray⟩ := ⟨_, rfl⟩
    obtain ⟨d, hd⟩ : ∃ q : ByteArray, q = ⟨(Lib.itoa (C.Pr i)).toArray⟩ := ⟨_, rfl⟩
    obtain ⟨ta, hta⟩ : ∃ q : ByteArray, q = ⟨(txL (C.AX i) (C.AY i) (C.AN i)).toArray⟩ := ⟨_, rfl⟩
    obtain ⟨tb, htb⟩ : ∃ q : ByteArray, q = ⟨(txL (C.BX i) (C.BY i) (C.BN i)).toArray⟩ := ⟨_, rfl⟩
    have hsz : nm.size ≤ 5000 ∧ a.size ≤ 5000 ∧ d.size ≤ 5000 ∧ ta.size ≤ 5000 ∧ tb.size ≤ 5000 := by
      have q1 := (secP_n hsp).2.2.2
      have e1 : (C.Nm i).data.toList.length = (C.Nm i).size := rfl
      have q2 := itoa_len hq.1
      have q3 := itoa_len hq.2
      have e2 : a.size = (Lib.itoa (C.Ht i)).length := by rw [ha]; rfl
      have e3 : d.size = (Lib.itoa (C.Pr i)).length := by rw [hd]; rfl
      have e4 : ta.size = (txL (C.AX i) (C.AY i) (C.AN i)).length := by rw [hta]; rfl
      have e5 : tb.size = (txL (C.BX i) (C.BY i) (C.BN i)).length := by rw [htb]; rfl
      have q4 : (ln2 C i).length = 4 + ((txL (C.AX i) (C.AY i) (C.AN i)).length + 1) := by unfold ln2 wAre; rw [List.length_append, List.length_cons]; rfl
      have q5 : (ln3 C i).length = 10 + ((txL (C.BX i) (C.BY i) (C.BN i)).length + 1) := by unfold ln3 wCon; rw [List.length_append, List.length_cons]; rfl
      rw [hnm]
      omega
    rw [← hnm] at c0
    rw [← hh] at c1 IA
    rw [← hr] at c2 IB
    rw [← hta] at XA
    rw [← htb] at XB
    rw [hh, ← ha, ← hh] at IA
    rw [hr, ← hd, ← hr] at IB
    have hs1 : S = wSec ++ 32 :: (nm.data.toList ++ 32 :: (a.data.toList ++ 32 :: d.data.toList)) ++ 10 :: ((wAre ++ 32 :: ta.data.toList) ++ 10 :: ((wCon ++ 32 :: tb.data.toList) ++ [10])) := by rw [hs0, hnm, ha, hd, hta, htb]
    obtain ⟨p1, p2, p3, p4, p5, p6, p7, p8, p9, p10, ⟨j1, j2, j3, j4, j5, j6, j7, j8, j9, j10⟩, ⟨z1, z2, z3, z4, z5, z6, z7, z8, z9, z10⟩, hj⟩ := sec_join nm a d ta tb hsz.1 hsz.2.1 hsz.2.2.1 hsz.2.2.2.1 hsz.2.2.2.2
    have HS1 : Hid (p10.data.toList = S) := by show _ = _; rw [hj, hs1]
    have HLN : Hid ((catT C i).length + p10.size ≤ 140737488355328) := by
      show _ ≤ _
      have e : p10.size = S.length := by rw [← HS1.out]; rfl
      have := HN.out
      omega
    obtain ⟨y1, y2, y3, y4, y5⟩ := hsz
    have s_c0 : (((⟨#[115, 101, 99, 116, 105, 111, 110, 32]⟩ : ByteArray).size : Nat) : Int) ≤ 8388608 := by decide
    have s_b0 : (((⟨#[32]⟩ : ByteArray).size : Nat) : Int) ≤ 8388608 := by decide
    have s_cA : (((⟨#[10, 97, 114, 101, 97, 32]⟩ : ByteArray).size : Nat) : Int) ≤ 8388608 := by decide
    have s_cC : (((⟨#[10, 99, 111, 110, 118, 101, 121, 97, 110, 99, 101, 32]⟩ : ByteArray).size : Nat) : Int) ≤ 8388608 := by decide
    have s_cE : (((⟨#[10]⟩ : ByteArray).size : Nat) : Int) ≤ 8388608 := by decide
    have y1 : ((nm.size : Nat) : Int) ≤ 8388608 := by omega
    have y2 : ((a.size : Nat) : Int) ≤ 8388608 := by omega
    have y3 : ((d.size : Nat) : Int) ≤ 8388608 := by omega
    have y4 : ((ta.size : Nat) : Int) ≤ 8388608 := by omega
    have y5 : ((tb.size : Nat) : Int) ≤ 8388608 := by omega
    have lm1 : ¬ 9223372036854775807 < 8 + nm.size := by omega
    have lm2 : ¬ 9223372036854775807 < p1.size + 1 := by omega
    have lm3 : ¬ 9223372036854775807 < p2.size + a.size := by omega
    have lm4 : ¬ 9223372036854775807 < p3.size + 1 := by omega
    have lm5 : ¬ 9223372036854775807 < p4.size + d.size := by omega
    have lm6 : ¬ 9223372036854775807 < p5.size + 6 := by omega
    have lm7 : ¬ 9223372036854775807 < p6.size + ta.size := by omega
    have lm8 : ¬ 9223372036854775807 < p7.size + 12 := by omega
    have lm9 : ¬ 9223372036854775807 < p8.size + tb.size := by omega
    have lm10 : ¬ 9223372036854775807 < p9.size + 1 := by omega
    have HNM := Lib.hid hnm
    generalize C.AA i = AA at c3 XA
    generalize C.BA i = BA at c4 XB
    generalize C.AN i = AN at c3 XA
    generalize C.BN i = BN at c4 XB
    generalize C.AC i = AC at c3 XA
    generalize C.BC i = BC at c4 XB
    clear hi' hlt hbk hsp hcl hq hll hCc htA htB hAA hBB hs0 hl0 hS hs1 hj hnm hh hr ha hd hta htb
    go_upto_region 7 with fail
    have hal : Below wr.heap.size wr (wr.alloc (Obj.cells #[.string nm, .int .i64 h, .int .i64 r, .slice AA AN AC, .slice BA BN BC] 40)) := (Below.refl _ wr).alloc (Nat.le_refl _) _
    have HX : Hid (Blk (wr.alloc (Obj.cells #[.string nm, .int .i64 h, .int .i64 r, .slice AA AN AC, .slice BA BN BC] 40)) wr.heap.size 40 #[.string nm, .int .i64 h, .int .i64 r, .slice AA AN AC, .slice BA BN BC]) := Blk.new wr _ _
    have HM4 := Lib.hid (And.intro (HM.out.1.call hal) (And.intro (below_step HM.out.2 hal) hal))
    clear hal c0 c1 c2 c3 c4
    generalize wr.alloc (Obj.cells #[.string nm, .int .i64 h, .int .i64 r, .slice AA AN AC, .slice BA BN BC] 40) = w4 at HX HM4 ⊢
    have HGB : Hid (wr.heap.size ≠ b) := by
      have : b < wr.heap.size := HM.out.1.elim (fun x => x.lt) (fun x => x.lt)
      show _ ≠ _
      omega
    obtain ⟨c0, c1, c2, c3, c4⟩ := blk5 HX.out
    go_upto_region 13 with (first
      | (go_at_call 23
         with_reducible refine (XA.out _ HM4.out.2.2).mono ?_
         rintro e w5 ⟨rfl, hb5⟩
         clear c0 c1 c2 c3 c4
         have HX5 := Lib.hid (HX.out.call hb5)
         have HM5 := Lib.hid (And.intro (HM4.out.1.call hb5) (And.intro (below_step HM4.out.2.1 hb5) (below_step HM4.out.2.2 hb5)))
         clear hb5
         obtain ⟨c0, c1, c2, c3, c4⟩ := blk5 HX5.out)
      | (go_at_call 23
         with_reducible refine (XB.out _ HM5.out.2.2).mono ?_
         rintro e w6 ⟨rfl, hb6⟩
         clear c0 c1 c2 c3 c4
         have HX6 := Lib.hid (HX5.out.call hb6)
         have HM6 := Lib.hid (And.intro (HM5.out.1.call hb6) (And.intro (below_step HM5.out.2.1 hb6) (below_step HM5.out.2.2 hb6)))
         clear hb6
         obtain ⟨c0, c1, c2, c3, c4⟩ := blk5 HX6.out))
    clear HX HX5 HM4 HM5 XA XB
    generalize wr.heap.size = G at HX6 HGB c0 c1 c2 c3 c4 ⊢
    have HS : Hid (∀ w', Below w6.heap.size w6 w' → w'.cell? ⟨G, 0, none⟩ = some (.string nm) ∧ w'.cell? ⟨G, 1, none⟩ = some (.int .i64 h) ∧ w'.cell? ⟨G, 2, none⟩ = some (.int .i64 r)) := fun w' hb => by
      obtain ⟨d0, d1, d2, d3, d4⟩ := blk5 (HX6.out.call hb)
      exact ⟨d0, d1, d2⟩
    have hs0 : w6.cell? ⟨G, 0, none⟩ = some (.string nm) ∧ w6.cell? ⟨G, 1, none⟩ = some (.int .i64 h) ∧ w6.cell? ⟨G, 2, none⟩ = some (.int .i64 r) := ⟨c0, c1, c2⟩
    have hs1 : w6.drew.cell? ⟨G, 0, none⟩ = some (.string nm) ∧ w6.drew.cell? ⟨G, 1, none⟩ = some (.int .i64 h) ∧ w6.drew.cell? ⟨G, 2, none⟩ = some (.int .i64 r) := ⟨c0, c1, c2⟩
    clear c0 c1 c2 c3 c4
    go_region_held3 (fun w' => w'.cell? ⟨G, 0, none⟩ = some (.string nm) ∧ w'.cell? ⟨G, 1, none⟩ = some (.int .i64 h) ∧ w'.cell? ⟨G, 2, none⟩ = some (.int .i64 r)) (first | with_reducible assumption | exact HS.out _ (by (repeat' (first | assumption | exact Below.refl _ _ | exact Below.size (by assumption) | (refine Below.setCell ?_ ?_ _) | (refine Below.alloc ?_ ?_ _) | (refine Below.drew ?_) | (refine below_drewN ?_ _) | (refine Below.trans ?_ (Below.mono ‹Below _ _ _› ?_)) | omega | (simp; done) | (simp; omega) | (simp at *; omega))))) (first
      | (go_at_call 25
         with_reducible refine (IA.out _ ?_).mono ?_
         focus (first | exact HM6.out.2.1.drew | exact HM6.out.2.1)
         rintro e w7 ⟨rfl, hb7⟩
         have hb7 := bl_drew hb7
         have HM7 := Lib.hid (And.intro (HM6.out.1.call hb7) (And.intro (below_step HM6.out.2.1 hb7) (HX6.out.call hb7)))
         have hs7 : w7.cell? ⟨G, 0, none⟩ = some (.string nm) ∧ w7.cell? ⟨G, 1, none⟩ = some (.int .i64 h) ∧ w7.cell? ⟨G, 2, none⟩ = some (.int .i64 r) := HS.out _ hb7
         clear hb7)
      | (go_at_call 25
         with_reducible refine (IB.out _ ?_).mono ?_
         focus (exact HM7.out.2.1)
         rintro e w8 ⟨rfl, hb8⟩
         have HM8 := Lib.hid (And.intro (HM7.out.1.call hb8) (And.intro (below_step HM7.out.2.1 hb8) (HM7.out.2.2.call hb8)))
         have hs8 : w8.cell? ⟨G, 0, none⟩ = some (.string nm) ∧ w8.cell? ⟨G, 1, none⟩ = some (.int .i64 h) ∧ w8.cell? ⟨G, 2, none⟩ = some (.int .i64 r) := by
           obtain ⟨d0, d1, d2, d3, d4⟩ := blk5 HM8.out.2.2
           exact ⟨d0, d1, d2⟩
         clear hb8)
      | (go_at_call 24
         refine (bstring w.heap.size b (catT C i) p10 _ HM8.out.1 HLN.out HM8.out.2.1.size).mono ?_
         rintro e w9 ⟨rfl, hm9, hb9, hk9⟩
         have HM9 := Lib.hid (And.intro hm9 (HM8.out.2.1.trans hb9))
         have hs9 : w9.cell? ⟨G, 0, none⟩ = some (.string nm) ∧ w9.cell? ⟨G, 1, none⟩ = some (.int .i64 h) ∧ w9.cell? ⟨G, 2, none⟩ = some (.int .i64 r) := by
           obtain ⟨d0, d1, d2, d3, d4⟩ := blk5 (Blk.oth HM8.out.2.2 hk9 HGB.out (by decide))
           exact ⟨d0, d1, d2⟩
         clear hm9 hb9 hk9))
    all_goals
      clear IA IB HS hs0 hs1 j1 j2 j3 j4 j5 j6 j7 j8 j9 j10 z1 z2 z3 z4 z5 z6 z7 z8 z9 z10
      go_wp2_with fail
      go_roundw
      case rel => exact ⟨i', HI', rfl, by rw [HEQ.out, ← HS1.out]; exact HM9⟩
      case measure => exact HMS.out
end Go.Proofs.YthbdeaglncoanaaGreatDoor

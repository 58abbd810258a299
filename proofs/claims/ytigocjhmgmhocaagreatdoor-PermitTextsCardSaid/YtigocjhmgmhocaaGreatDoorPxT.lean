/- permit.Text. -/
import Derived.Test.YtigocjhmgmhocaaGreatDoorPqP
import Derived.Test.YtigocjhmgmhocaaGreatDoorBld
namespace Go.Proofs.YtigocjhmgmhocaaGreatDoor
open Go.RowKit Go.Shelf
set_option linter.unusedVariables false
set_option linter.unusedSimpArgs false

theorem BAt.call {B b : Nat} {l : List UInt8} {w w' : World} (h : BAt B b l w) (hb : Below w.heap.size w w') : BAt B b l w' := by
  have key : ∀ {p : Value} {bs : List Value}, Lib.BuilderAtF 53 5 B b p bs w → Lib.BuilderAtF 53 5 B b p bs w' := fun h => by
    have hlt := h.lt
    obtain ⟨hB, v, hbk, hown, hne⟩ := h
    exact ⟨hB, v, (hb.block b hlt).trans hbk, hown.kept (only_of_below hb none) (by cases hv : v.ownBlock <;> simp), hne⟩
  exact h.elim (fun x => .inl (key x)) (fun x => .inr (key x))
theorem BAt.alloc {B b : Nat} {l : List UInt8} {w : World} (h : BAt B b l w) (o : Obj) : BAt B b l (w.alloc o) := Lib.IsBuilderF.alloc h o
theorem BAt.lt {B b : Nat} {l : List UInt8} {w : World} (h : BAt B b l w) : b < w.heap.size := h.elim (fun x => x.lt) (fun x => x.lt)
theorem Blk.oth {w w' : World} {g b : Nat} {t : TypeId} {cs : Array Value} (h : Blk w g t cs) (hk : Lib.OthersKept 5 (some b) w w') (hg : g ≠ b) (ht : t ≠ 5) : Blk w' g t cs :=
  hk g _ h (fun e => hg (by cases e; rfl)) (fun c fz e => by cases e; exact ht rfl)
/-- The line of a permit, so far. -/
def pcl (p : Pmr) (i : Nat) : List UInt8 := p.nm.data.toList ++ (32 :: (p.nd.data.toList ++ ((if 0 < i then 32 :: Lib.itoa p.ev else []) ++ ((if 1 < i then 32 :: Lib.itoa p.vol else []) ++ (if 2 < i then 32 :: Lib.itoa p.tot else [])))))
theorem pcl_three (p : Pmr) : pcl p 3 = pln p := by simp [pcl, pln]
theorem pcl_one (p : Pmr) : pcl p 1 = pcl p 0 ++ 32 :: Lib.itoa p.ev := by simp [pcl]
theorem pcl_two (p : Pmr) : pcl p 2 = pcl p 1 ++ 32 :: Lib.itoa p.vol := by simp [pcl]
theorem pcl_thr (p : Pmr) : pcl p 3 = pcl p 2 ++ 32 :: Lib.itoa p.tot := by simp [pcl]
theorem str_sp (L : List UInt8) : ((⟨#[32]⟩ : ByteArray) ++ (⟨L.toArray⟩ : ByteArray)).data.toList = 32 :: L := by simp
theorem str_nm (a b : ByteArray) : (a ++ (⟨#[32]⟩ : ByteArray) ++ b).data.toList = a.data.toList ++ (32 :: b.data.toList) := by simp
theorem str_sz (L : List UInt8) : ((⟨#[32]⟩ : ByteArray) ++ (⟨L.toArray⟩ : ByteArray)).size = L.length + 1 := by rw [size_lst, str_sp]; rfl
theorem itoa_18 {v : Int} (h : numP v) : (Lib.itoa v).length ≤ 18 := by
  rw [itoa_pos' (by have := h.1; omega), Lib.decDigits_length]
  exact nDigits_le 18 _ (by decide) (by rw [pow18]; have := h; unfold numP at this; omega)
theorem pcl_len {p : Pmr} (h : formP p) (i : Nat) : (pcl p i).length ≤ 98 := by
  have h1 := (name_bytes h.nm).2.2.2
  have h2 := (name_bytes h.nd).2.2.2
  have h3 := itoa_18 h.ev
  have h4 := itoa_18 h.vol
  have h5 := itoa_18 h.tot
  unfold pcl
  split <;> split <;> split <;> simp only [List.length_append, List.length_cons, List.length_nil] <;> omega
theorem ptx_le {L : List Pmr} (h : ∀ p, p ∈ L → formP p) : (ptx L).length ≤ 99 * L.length := by
  induction L with
  | nil => simp [ptx]
  | cons p L ih =>
    have := ih (fun q hq => h q (by simp [hq]))
    have h2 := pcl_len (h p (by simp)) 3
    rw [pcl_three] at h2
    have e : ptx (p :: L) = pln p ++ 10 :: ptx L := by unfold ptx; simp
    rw [e]
    simp only [List.length_append, List.length_cons]
    omega
structure TxO (w wr : World) (b : Nat) (l : List UInt8) : Prop where
  bt : BAt w.heap.size b l wr
  bl : Below w.heap.size w wr
structure TxI (w wr : World) (b q g : Nat) (l : List UInt8) (p : Pmr) : Prop where
  bt : BAt w.heap.size b l wr
  bl : Below w.heap.size w wr
  nm : Blk wr g 3 #[.int .i64 p.ev, .int .i64 p.vol, .int .i64 p.tot]
set_option maxRecDepth 100000 in
set_option maxHeartbeats 4000000 in
theorem txt_ok (A : Option Addr) (n c : Nat) (P : Pms) (w : World) (hE : Env5 w) (hn : n ≤ 1000) (hP : PmIn w A n P) (hok : ∀ k, k < n → okP (P.at k)) :
    Calls Tryz.prog 8 #[.slice A n c] w fun e w' => e = .returned (.tuple #[.string ⟨(ptx (pml P n)).toArray⟩, .int .i64 0]) ∧ Below w.heap.size w w' := by
  have HSZ : ∀ k, k < n → (P.Nm k).size ≤ maxLen ∧ (P.Nd k).size ≤ maxLen := fun k hk => by
    have h1 := (name_bytes (hok k hk).form.nm).2.2.2
    have h2 := (name_bytes (hok k hk).form.nd).2.2.2
    have h3 := size_lst (P.Nm k)
    have h4 := size_lst (P.Nd k)
    have h1' : (P.Nm k).data.toList.length ≤ 20 := h1
    have h2' : (P.Nd k).data.toList.length ≤ 20 := h2
    unfold maxLen; omega
  have ST := Lib.hid (has_xinv A n c P w (by omega) ⟨hP, HSZ⟩ false ⟨fun h => (by cases h), fun ⟨j, hj, hb⟩ => by
    have h1 : validB (P.Nm j) (P.Nd j) (P.Ev j) (P.Vol j) (P.Tot j) = true := hok j hj
    have hb' : (!_) = true := hb
    rw [h1] at hb'; cases hb'⟩)
  have T1 : decide ((1000 : Int) < (n : Int)) = false := decide_eq_false (by omega)
  have T1' : decide (1000 < n) = false := decide_eq_false (by omega)
  have HE := Lib.hid hE
  have HP := Lib.hid hP
  have HOK := Lib.hid hok
  have HN := Lib.hid hn
  have HLEN : Hid (∀ i, i ≤ n → (ptx (pml P i)).length ≤ 99 * i) := fun i hi => by
    have := ptx_le (L := pml P i) (fun p hp => by
      obtain ⟨k, hk, rfl⟩ := pml_mem.1 hp
      exact (hok k (by omega)).form)
    rw [pml_len] at this; exact this
  clear hE hP hok hn HSZ
  go_enter Tryz.func8, Tryz.ntmps8
  go_wp2_with (first
    | (go_at_call 6
       with_reducible refine (ST.out).mono ?_
       rintro e w1 ⟨rfl, hb1⟩
       have HB1 := Lib.hid hb1
       clear hb1))
  obtain ⟨b, hb⟩ : ∃ b, w1.heap.size = b := ⟨_, rfl⟩
  have HM0 : Hid (TxO w (w1.alloc (.cells #[.pointer none, .slice none 0 0] 53)) b (ptx (pml P 0))) := ⟨by rw [← hb]; exact BAt.new w1 HB1.out.size, HB1.out.alloc HB1.out.size _⟩
  rw [hb]
  clear HB1
  generalize w1.alloc (.cells #[.pointer none, .slice none 0 0] 53) = w2 at HM0 ⊢
  clear hb
  go_loopw [16] (fun u wr => ∃ i : Nat, Hid (i ≤ n) ∧ u = .int .i64 i ∧ Hid (TxO w wr b (ptx (pml P i)))) (fun u _ => n - (intOf u).toNat)
  case atStart => exact ⟨0, Nat.zero_le _, rfl, HM0⟩
  case round =>
    obtain ⟨i, Hi, rfl, HM⟩ := hrel
    by_cases hlt : i < n
    case neg =>
      have T0 : decide ((i : Int) < (n : Int)) = false := by simp <;> omega
      have T0' : decide (i < n) = false := decide_eq_false hlt
      have e : i = n := by have := Hi.out; omega
      subst e
      have SS := Lib.hid fun w' => fun h h2 => Tryz.Builder_String_any_k w.heap.size b (ptx (pml P i)) w' h h2
      clear hlt
      go_wp2_with (first
        | (go_at_call 24
           refine (SS.out _ HM.out.bt HM.out.bl.size).mono ?_
           rintro e wz ⟨rfl, hz1, hz2, hz3⟩
           have HZ := Lib.hid hz2
           clear hz1 hz2 hz3))
      go_ret2
      exact ⟨rfl, HM.out.bl.trans HZ.out⟩
    have T0 : decide ((i : Int) < (n : Int)) = true := by simp <;> omega
    have T0' : decide (i < n) = true := decide_eq_true hlt
    obtain ⟨i', hi'⟩ : ∃ z, z = i + 1 := ⟨_, rfl⟩
    have x0 : IntKind.i64.wrap ((i : Int) + 1) = (i' : Int) := by have := HN.out; rw [IntKind.wrap_i64]; omega
    obtain ⟨d, off, rfl, hd, c0, c1, c2, c3, c4⟩ := (HP.out.below (Nat.le_refl _) HM.out.bl).at hlt
    obtain ⟨p, hp⟩ : ∃ p, p = P.at i := ⟨_, rfl⟩
    have hpf : formP p := by rw [hp]; exact (HOK.out i hlt).form
    have e0 : P.Nm i = p.nm := by rw [hp]; rfl
    have e1 : P.Nd i = p.nd := by rw [hp]; rfl
    have e2 : P.Ev i = p.ev := by rw [hp]; rfl
    have e3 : P.Vol i = p.vol := by rw [hp]; rfl
    have e4 : P.Tot i = p.tot := by rw [hp]; rfl
    rw [e0] at c0
    rw [e1] at c1
    rw [e2] at c2
    rw [e3] at c3
    rw [e4] at c4
    have hl := HLEN.out i (by omega)
    have hpl := pcl_len hpf 0
    have k0 : (0 : Int) ≤ (i : Int) := by omega
    have k1 : (i : Int) < (n : Int) := by omega
    have HPF := Lib.hid hpf
    have HPE := Lib.hid hp
    have HIE := Lib.hid hi'
    have HLT := Lib.hid hlt
    clear e0 e1 e2 e3 e4 hp hi' hlt
    have SW := Lib.hid fun (l : List UInt8) (x : ByteArray) (w' : World) (h : BAt w.heap.size b l w') (h1 : l.length + x.size ≤ 140737488355328) (h2 : w.heap.size ≤ w'.heap.size) => bstring w.heap.size b l x w' h h1 h2
    obtain ⟨q, hq⟩ : ∃ q, wr.heap.size = q := ⟨_, rfl⟩
    have HBX := Lib.hid (HM.out.bt.alloc (.cells #[.string p.nm, .string p.nd, .int .i64 p.ev, .int .i64 p.vol, .int .i64 p.tot] 26))
    have HQX : Hid (Blk (wr.alloc (.cells #[.string p.nm, .string p.nd, .int .i64 p.ev, .int .i64 p.vol, .int .i64 p.tot] 26)) q 26 #[.string p.nm, .string p.nd, .int .i64 p.ev, .int .i64 p.vol, .int .i64 p.tot]) := by rw [← hq]; exact Blk.new wr _ _
    have HBW : Hid (Below w.heap.size w (wr.alloc (.cells #[.string p.nm, .string p.nd, .int .i64 p.ev, .int .i64 p.vol, .int .i64 p.tot] 26))) := HM.out.bl.alloc HM.out.bl.size _
    have HQB : Hid (q ≠ b) := by have := HM.out.bt.lt; show _ ≠ _; omega
    have hpl' := hpl
    rw [show (pcl p 0).length = p.nm.data.toList.length + (1 + p.nd.data.toList.length) from by simp [pcl]; omega] at hpl'
    rw [← size_lst, ← size_lst] at hpl'
    go_wp2_with (first
      | (go_at_call 21
         refine (SW.out (ptx (pml P i)) _ _ HBX.out ?hl HBW.out.size).mono ?_
         case hl => (have h1 := size_lst (p.nm ++ (⟨#[32]⟩ : ByteArray) ++ p.nd); rw [str_nm, List.length_append, List.length_cons, ← size_lst, ← size_lst] at h1; have h2 := HN.out; omega)
         rintro e wx ⟨rfl, hx1, hx2, hx3⟩
         have HX1 := Lib.hid hx1
         have HX2 := Lib.hid (HBW.out.trans hx2)
         have HX3 := Lib.hid (HQX.out.oth hx3 HQB.out (by decide))
         obtain ⟨z0, z1, z2, z3, z4⟩ := perm_cells HX3.out
         clear hx1 hx2 hx3))
    obtain ⟨g, hg⟩ : ∃ g, wx.heap.size = g := ⟨_, rfl⟩
    have HGB : Hid (g ≠ b) := by have := HX1.out.lt; show _ ≠ _; omega
    have HJ0 : Hid (TxI w (wx.alloc (.cells #[.int .i64 p.ev, .int .i64 p.vol, .int .i64 p.tot] 3)) b q g (ptx (pml P i) ++ pcl p 0) p) := ⟨by
        have := HX1.out.alloc (.cells #[.int .i64 p.ev, .int .i64 p.vol, .int .i64 p.tot] 3)
        rw [str_nm] at this
        have e : pcl p 0 = p.nm.data.toList ++ (32 :: p.nd.data.toList) := by simp [pcl]
        rw [e]; exact this, HX2.out.alloc HX2.out.size _, by rw [← hg]; exact Blk.new wx _ _⟩
    rw [hg]
    clear HX1 HX2 HX3 z0 z1 z2 z3 z4 c0 c1 c2 c3 c4 hg hq HBX HQX HBW HQB
    generalize wx.alloc (.cells #[.int .i64 p.ev, .int .i64 p.vol, .int .i64 p.tot] 3) = w4 at HJ0 ⊢
    go_loopw [35] (fun u wr => ∃ j : Nat, Hid (j ≤ 3) ∧ u = .int .i64 j ∧ Hid (TxI w wr b q g (ptx (pml P i) ++ pcl p j) p)) (fun u _ => 3 - (intOf u).toNat)
    case atStart => exact ⟨0, by show _ ≤ _; omega, rfl, HJ0⟩
    case round =>
      obtain ⟨j, Hj, rfl, HJ⟩ := hrel
      have hj4 : j = 0 ∨ j = 1 ∨ j = 2 ∨ j = 3 := by have := Hj.out; omega
      have g0 := HJ.out.nm.cell 0
      have g1 := HJ.out.nm.cell 1
      have g2 := HJ.out.nm.cell 2
      simp only [List.getElem?_toArray, List.getElem?_cons_zero, List.getElem?_cons_succ] at g0 g1 g2
      rcases hj4 with rfl | rfl | rfl | rfl
      · have SIT := Lib.hid fun w' hE => titoa5 p.ev (by have := HPF.out.ev.near.1; omega) (by have := HPF.out.ev.near.2; omega) w' hE
        have hl18 := itoa_18 HPF.out.ev
        have hpj := pcl_len HPF.out 0
        go_wp2_with (first
          | (go_at_call 22
             with_reducible refine (SIT.out _ (HE.out.below HJ.out.bl)).mono ?_
             rintro e w5 ⟨rfl, hb5⟩
             have HB5 := Lib.hid hb5
             clear hb5)
          | (go_at_call 21
             refine (SW.out (ptx (pml P i) ++ pcl p 0) _ _ (HJ.out.bt.call HB5.out) ?hl (below_step HJ.out.bl HB5.out).size).mono ?_
             case hl => (have h1 := str_sz (Lib.itoa p.ev); rw [h1, List.length_append]; have h2 := HN.out; omega)
             rintro e w6 ⟨rfl, hx1, hx2, hx3⟩
             have HX6 := Lib.hid hx1
             have HY6 := Lib.hid ((below_step HJ.out.bl HB5.out).trans hx2)
             have HZ6 := Lib.hid ((HJ.out.nm.call HB5.out).oth hx3 HGB.out (by decide))
             clear hx1 hx2 hx3))
        go_roundw
        case rel => exact ⟨1, by show _ ≤ _; omega, rfl, ⟨by have := HX6.out; rw [str_sp, List.append_assoc, ← pcl_one] at this; exact this, HY6.out, HZ6.out⟩⟩
        case measure => simp [intOf]
      · have SIT := Lib.hid fun w' hE => titoa5 p.vol (by have := HPF.out.vol.near.1; omega) (by have := HPF.out.vol.near.2; omega) w' hE
        have hl18 := itoa_18 HPF.out.vol
        have hpj := pcl_len HPF.out 1
        go_wp2_with (first
          | (go_at_call 22
             with_reducible refine (SIT.out _ (HE.out.below HJ.out.bl)).mono ?_
             rintro e w5 ⟨rfl, hb5⟩
             have HB5 := Lib.hid hb5
             clear hb5)
          | (go_at_call 21
             refine (SW.out (ptx (pml P i) ++ pcl p 1) _ _ (HJ.out.bt.call HB5.out) ?hl (below_step HJ.out.bl HB5.out).size).mono ?_
             case hl => (have h1 := str_sz (Lib.itoa p.vol); rw [h1, List.length_append]; have h2 := HN.out; omega)
             rintro e w6 ⟨rfl, hx1, hx2, hx3⟩
             have HX6 := Lib.hid hx1
             have HY6 := Lib.hid ((below_step HJ.out.bl HB5.out).trans hx2)
             have HZ6 := Lib.hid ((HJ.out.nm.call HB5.out).oth hx3 HGB.out (by decide))
             clear hx1 hx2 hx3))
        go_roundw
        case rel => exact ⟨2, by show _ ≤ _; omega, rfl, ⟨by have := HX6.out; rw [str_sp, List.append_assoc, ← pcl_two] at this; exact this, HY6.out, HZ6.out⟩⟩
        case measure => simp [intOf]
      · have SIT := Lib.hid fun w' hE => titoa5 p.tot (by have := HPF.out.tot.near.1; omega) (by have := HPF.out.tot.near.2; omega) w' hE
        have hl18 := itoa_18 HPF.out.tot
        have hpj := pcl_len HPF.out 2
        go_wp2_with (first
          | (go_at_call 22
             with_reducible refine (SIT.out _ (HE.out.below HJ.out.bl)).mono ?_
             rintro e w5 ⟨rfl, hb5⟩
             have HB5 := Lib.hid hb5
             clear hb5)
          | (go_at_call 21
             refine (SW.out (ptx (pml P i) ++ pcl p 2) _ _ (HJ.out.bt.call HB5.out) ?hl (below_step HJ.out.bl HB5.out).size).mono ?_
             case hl => (have h1 := str_sz (Lib.itoa p.tot); rw [h1, List.length_append]; have h2 := HN.out; omega)
             rintro e w6 ⟨rfl, hx1, hx2, hx3⟩
             have HX6 := Lib.hid hx1
             have HY6 := Lib.hid ((below_step HJ.out.bl HB5.out).trans hx2)
             have HZ6 := Lib.hid ((HJ.out.nm.call HB5.out).oth hx3 HGB.out (by decide))
             clear hx1 hx2 hx3))
        go_roundw
        case rel => exact ⟨3, by show _ ≤ _; omega, rfl, ⟨by have := HX6.out; rw [str_sp, List.append_assoc, ← pcl_thr] at this; exact this, HY6.out, HZ6.out⟩⟩
        case measure => simp [intOf]
      · have SB : Hid (∀ (l : List UInt8) (w' : World), BAt w.heap.size b l w' → l.length + 1 ≤ 140737488355328 → w.heap.size ≤ w'.heap.size → Calls Tryz.prog 23 #[.pointer (some ⟨b, 0, none⟩), .int .u8 10] w' fun e w'' => e = .returned .nilIface ∧ BAt w.heap.size b (l ++ [10]) w'' ∧ Below w.heap.size w' w'' ∧ Lib.OthersKept 5 (some b) w' w'') := fun l w' h h1 h2 => bbyte w.heap.size b l 10 w' h h1 h2
        have hpj := pcl_len HPF.out 3
        have HEQ : Hid (ptx (pml P i) ++ pcl p 3 ++ [10] = ptx (pml P i')) := by
          show _ = _
          rw [HIE.out, pml_succ, ptx_snoc, ← HPE.out, pcl_three, List.append_assoc]
        have HI' : Hid (i' ≤ n) := by have := HIE.out; have := HLT.out; show _ ≤ _; omega
        have HMS : Hid (n - (RowKit.intOf (Value.int .i64 (i' : Int))).toNat < n - (RowKit.intOf (Value.int .i64 (i : Int))).toNat) := by have := HIE.out; have := HLT.out; show _ < _; simp [RowKit.intOf]; omega
        go_wp2_with (first
          | (go_at_call 23
             refine (SB.out (ptx (pml P i) ++ pcl p 3) _ HJ.out.bt ?hl HJ.out.bl.size).mono ?_
             case hl => (rw [List.length_append]; have h2 := HN.out; omega)
             rintro e w7 ⟨rfl, hx1, hx2, hx3⟩
             have HX7 := Lib.hid hx1
             have HY7 := Lib.hid (HJ.out.bl.trans hx2)
             clear hx1 hx2 hx3))
        go_roundw
        case rel => exact ⟨i', HI', rfl, ⟨by rw [← HEQ.out]; exact HX7.out, HY7.out⟩⟩
        case measure => exact HMS.out
end Go.Proofs.YtigocjhmgmhocaaGreatDoor

/- storage.right and storage.Level. -/
import Derived.Test.YtfgakaielfekoaaGreatDoorStg
import Derived.Test.YtfgakaielfekoaaGreatDoorNetV
import Derived.Test.YtfgakaielfekoaaGreatDoorRpn
namespace Go.Proofs.YtfgakaielfekoaaGreatDoor
open Go.RowKit
set_option linter.unusedVariables false
set_option linter.unusedSimpArgs false

def oneNd (nm : ByteArray) (kd ax ay iv gd : Int) (A : Option Addr) (n c : Nat) (X Y : Nat → Int) (pt : Bool) (rs : Int) : Nds := ⟨fun _ => nm, fun _ => kd, fun _ => ax, fun _ => ay, fun _ => iv, fun _ => gd, fun _ => A, fun _ => n, fun _ => c, fun _ => X, fun _ => Y, fun _ => pt, fun _ => rs⟩
def noLk : Lks := ⟨fun _ => ByteArray.empty, fun _ => ByteArray.empty, fun _ => ByteArray.empty, fun _ => 0, fun _ => 0, fun _ => 0, fun _ => 0, fun _ => ByteArray.empty, fun _ => 0, fun _ => 0, fun _ => none, fun _ => 0, fun _ => 0, fun _ _ => 0, fun _ _ => 0⟩
theorem one_net {nm : ByteArray} {kd ax ay iv gd : Int} {A : Option Addr} {n c : Nat} {X Y : Nat → Int} {pt : Bool} {rs : Int} : netP (oneNd nm kd ax ay iv gd A n c X Y pt rs) 1 noLk 0 ↔ nodeP nm kd ax ay iv gd n X Y pt rs := by
  constructor
  · intro h
    exact (h.2.2.1 0 (by omega)).1
  · intro h
    refine ⟨by omega, by omega, fun i hi => ?_, fun i hi => absurd hi (Nat.not_lt_zero _)⟩
    obtain rfl : i = 0 := by omega
    refine ⟨h, ?_⟩
    have hf : FirstAt (fun j => decide ((oneNd nm kd ax ay iv gd A n c X Y pt rs).Nm j = (oneNd nm kd ax ay iv gd A n c X Y pt rs).Nm 0)) 1 0 := ⟨by omega, fun j hj => absurd hj (Nat.not_lt_zero _), fun _ => decide_eq_true rfl⟩
    rw [fnd_at hf]
    rfl
theorem one_sz {nm : ByteArray} {kd ax ay iv gd : Int} {A : Option Addr} {n c : Nat} {X Y : Nat → Int} {pt : Bool} {rs : Int} (h : nm.size ≤ maxLen) : NetSz (oneNd nm kd ax ay iv gd A n c X Y pt rs) 1 noLk 0 :=
  ⟨by omega, by omega, fun _ _ => h, fun i hi => absurd hi (Nat.not_lt_zero _), fun i hi => absurd hi (Nat.not_lt_zero _), fun i hi => absurd hi (Nat.not_lt_zero _), fun i hi => absurd hi (Nat.not_lt_zero _), fun i hi => absurd hi (Nat.not_lt_zero _)⟩
theorem one_in {w : World} {g : Nat} {t : TypeId} {nm : ByteArray} {kd ax ay iv gd : Int} {A : Option Addr} {n c : Nat} {X Y : Nat → Int} {pt : Bool} {rs : Int} (hB : Blk w g t #[.string nm, .int .i64 kd, .int .i64 ax, .int .i64 ay, .int .i64 iv, .int .i64 gd, .slice A n c, .bool pt, .int .i64 rs]) (ht : TabIn w A n X Y) : NdIn w (some ⟨g, 0, none⟩) 1 (oneNd nm kd ax ay iv gd A n c X Y pt rs) := by
  refine ⟨by omega, .inr ⟨g, 0, rfl, hB.lt, fun k hk => ?_⟩⟩
  obtain rfl : k = 0 := by omega
  exact ⟨hB.cells, ht⟩
set_option maxRecDepth 100000 in
theorem sright (nm : ByteArray) (kd ax ay iv gd : Int) (A : Option Addr) (n c : Nat) (X Y : Nat → Int) (pt : Bool) (rs : Int) (hn : nm.size ≤ maxLen) (w : World) (ht : TabIn w A n X Y) :
    Calls Tryz.prog 77 #[.agg #[.string nm, .int .i64 kd, .int .i64 ax, .int .i64 ay, .int .i64 iv, .int .i64 gd, .slice A n c, .bool pt, .int .i64 rs]] w fun e w' => e = .returned (.bool (boolOf (nodeP nm kd ax ay iv gd n X Y pt rs))) ∧ Below w.heap.size w w' := by
  have C := Lib.hid fun NA w hD => nvalid NA none 1 1 0 0 (oneNd nm kd ax ay iv gd A n c X Y pt rs) noLk (one_sz hn) w hD ⟨by omega, .inl rfl⟩
  rw [propext one_net] at C
  generalize boolOf (nodeP nm kd ax ay iv gd n X Y pt rs) = f at C ⊢
  have HT := Lib.hid ht
  have HB2 := Lib.hid (blk_two w 65 65 #[.string nm, .int .i64 kd, .int .i64 ax, .int .i64 ay, .int .i64 iv, .int .i64 gd, .slice A n c, .bool pt, .int .i64 rs] #[.string nm, .int .i64 kd, .int .i64 ax, .int .i64 ay, .int .i64 iv, .int .i64 gd, .slice A n c, .bool pt, .int .i64 rs])
  have H2 : Hid (Below w.heap.size w ((w.alloc (Obj.cells #[.string nm, .int .i64 kd, .int .i64 ax, .int .i64 ay, .int .i64 iv, .int .i64 gd, .slice A n c, .bool pt, .int .i64 rs] 65)).alloc (Obj.cells #[.string nm, .int .i64 kd, .int .i64 ax, .int .i64 ay, .int .i64 iv, .int .i64 gd, .slice A n c, .bool pt, .int .i64 rs] 65))) := ((Below.refl _ w).alloc (Nat.le_refl _) _).alloc (by simp) _
  clear hn ht
  go_enter Tryz.func77, Tryz.ntmps77
  go_wp2_with (first
    | (go_at_call 90
       with_reducible refine (C.out _ _ ?_).mono ?_
       focus (exact one_in HB2.out.2 (HT.out.below (Nat.le_refl _) H2.out))
       rintro e w1 ⟨rfl, hb1⟩
       have H3 := Lib.hid (below_step H2.out hb1)
       clear hb1))
  go_ret
  exact ⟨rfl, H3.out⟩
set_option maxRecDepth 100000 in
theorem sLevel (nm : ByteArray) (kd ax ay iv gd : Int) (A : Option Addr) (n c : Nat) (X Y : Nat → Int) (pt : Bool) (rs v : Int) (hn : nm.size ≤ maxLen) (hp : nodeP nm kd ax ay iv gd n X Y pt rs) (hv : 0 ≤ v ∧ v ≤ 1125899906842624) (w : World) (ht : TabIn w A n X Y) :
    Calls Tryz.prog 30 #[.agg #[.string nm, .int .i64 kd, .int .i64 ax, .int .i64 ay, .int .i64 iv, .int .i64 gd, .slice A n c, .bool pt, .int .i64 rs], .int .i64 v] w fun e w' => e = .returned (.tuple #[.int .i64 (lvZ kd iv n X Y v), .int .i64 0]) ∧ Below w.heap.size w w' := by
  have C1 := Lib.hid fun w ht => sright nm kd ax ay iv gd A n c X Y pt rs hn w ht
  rw [boolOf_true hp] at C1
  have C2 := Lib.hid fun w => sholds v w
  rw [decide_eq_true hv] at C2
  have hl := ndP.lv (D := oneNd nm kd ax ay iv gd A n c X Y pt rs) (i := 0) hp
  have hk : LvOK kd iv n X Y v := ⟨hl.1.1, hl.1.2, hv.1, hl.2.1⟩
  have C3 := Lib.hid fun w ht => slevel nm kd ax ay iv gd A n c X Y pt rs v hk w ht
  generalize lvZ kd iv n X Y v = z at C3 ⊢
  have HT := Lib.hid ht
  have H0 : Hid (Below w.heap.size w (w.alloc (Obj.cells #[.string nm, .int .i64 kd, .int .i64 ax, .int .i64 ay, .int .i64 iv, .int .i64 gd, .slice A n c, .bool pt, .int .i64 rs] 65))) := (Below.refl _ w).alloc (Nat.le_refl _) _
  have HB0 := Lib.hid (Blk.new w 65 #[.string nm, .int .i64 kd, .int .i64 ax, .int .i64 ay, .int .i64 iv, .int .i64 gd, .slice A n c, .bool pt, .int .i64 rs])
  clear hn hp hv hl hk ht
  go_enter Tryz.func30, Tryz.ntmps30
  go_wp2_with (first
    | (go_at_call 77
       with_reducible refine (C1.out _ ?_).mono ?_
       focus (exact HT.out.below (Nat.le_refl _) H0.out)
       rintro e w1 ⟨rfl, hb1⟩
       have H1 := Lib.hid (below_step H0.out hb1)
       have HB1 := Lib.hid (HB0.out.call hb1)
       obtain ⟨q0, q1, q2, q3, q4, q5, q6, q7, q8⟩ := blk9 HB1.out
       clear hb1)
    | (go_at_call 78; (with_reducible refine (C2.out _).mono ?_); rintro e w' ⟨rfl, rfl⟩)
    | (go_at_call 79
       with_reducible refine (C3.out _ ?_).mono ?_
       focus (exact HT.out.below (Nat.le_refl _) H1.out)
       rintro e w2 ⟨rfl, hb2⟩
       have H2 := Lib.hid (below_step H1.out hb2)
       clear hb2))
  go_ret2
  exact ⟨rfl, H2.out⟩
end Go.Proofs.YtfgakaielfekoaaGreatDoor

/- The reference's Merge. -/
import Derived.Test.YtgbnbafigjijmaaDoorRLf
import Derived.StillTailTactics
namespace Go.Proofs.YtgbnbafigjijmaaDoor
open Go.RowKit
set_option linter.unusedVariables false
set_option linter.unusedSimpArgs false

theorem still_of {P : Program} {f : FuncId} {args : Array Value} {w : World} {v : Value} (h : Calls P f args w fun e w' => e = .returned v ∧ w = w') : Calls P f args w fun e w' => e = .returned v ∧ w' = w := h.mono fun _ _ h => ⟨h.1, h.2.symm⟩
set_option maxRecDepth 100000 in
set_option maxHeartbeats 4000000 in
theorem rmerge (nm nd : ByteArray) (ev vol tot : Int) (qm qd : ByteArray) (ev' vol' tot' : Int) (w : World) (v1 : validB nm nd ev vol tot = true) (v2 : validB qm qd ev' vol' tot' = true) :
    Calls Tryd.prog 24 #[.agg #[.string nm, .string nd, .int .i64 ev, .int .i64 vol, .int .i64 tot], .agg #[.string qm, .string qd, .int .i64 ev', .int .i64 vol', .int .i64 tot']] w fun e w' => e = .returned (mergeRes nm nd ev vol tot qm qd ev' vol' tot') ∧ Below w.heap.size w w' := by
  obtain ⟨R, hR⟩ : ∃ R, R = mergeRes nm nd ev vol tot qm qd ev' vol' tot' := ⟨_, rfl⟩
  rw [← hR]
  unfold mergeRes at hR
  rw [if_pos ⟨v1, v2⟩] at hR
  clear v1 v2
  have S1 := Lib.hid fun w => rleast ev ev' w
  have S2 := Lib.hid fun w => rleast vol vol' w
  have S3 := Lib.hid fun w => rleast tot tot' w
  have BA : Hid (Blk (((w.alloc (Obj.cells #[.string nm, .string nd, .int .i64 ev, .int .i64 vol, .int .i64 tot] 23)).alloc (Obj.cells #[.string qm, .string qd, .int .i64 ev', .int .i64 vol', .int .i64 tot'] 23)).alloc (Obj.cells #[.string ⟨#[]⟩, .string ⟨#[]⟩, .int .i64 0, .int .i64 0, .int .i64 0] 23)) w.heap.size 23 #[.string nm, .string nd, .int .i64 ev, .int .i64 vol, .int .i64 tot]) := ((Blk.new _ _ _).alloc _).alloc _
  have BB : Hid (Blk (((w.alloc (Obj.cells #[.string nm, .string nd, .int .i64 ev, .int .i64 vol, .int .i64 tot] 23)).alloc (Obj.cells #[.string qm, .string qd, .int .i64 ev', .int .i64 vol', .int .i64 tot'] 23)).alloc (Obj.cells #[.string ⟨#[]⟩, .string ⟨#[]⟩, .int .i64 0, .int .i64 0, .int .i64 0] 23)) (w.heap.size + 1) 23 #[.string qm, .string qd, .int .i64 ev', .int .i64 vol', .int .i64 tot']) := by
    have h := (Blk.new (w.alloc (Obj.cells #[.string nm, .string nd, .int .i64 ev, .int .i64 vol, .int .i64 tot] 23)) 23 #[.string qm, .string qd, .int .i64 ev', .int .i64 vol', .int .i64 tot']).alloc (Obj.cells #[.string ⟨#[]⟩, .string ⟨#[]⟩, .int .i64 0, .int .i64 0, .int .i64 0] 23)
    rw [show (w.alloc (Obj.cells #[.string nm, .string nd, .int .i64 ev, .int .i64 vol, .int .i64 tot] 23)).heap.size = w.heap.size + 1 by simp] at h
    exact h
  have BZ : Hid (Blk (((w.alloc (Obj.cells #[.string nm, .string nd, .int .i64 ev, .int .i64 vol, .int .i64 tot] 23)).alloc (Obj.cells #[.string qm, .string qd, .int .i64 ev', .int .i64 vol', .int .i64 tot'] 23)).alloc (Obj.cells #[.string ⟨#[]⟩, .string ⟨#[]⟩, .int .i64 0, .int .i64 0, .int .i64 0] 23)) (w.heap.size + 1 + 1) 23 #[.string ⟨#[]⟩, .string ⟨#[]⟩, .int .i64 0, .int .i64 0, .int .i64 0]) := by
    have h := Blk.new ((w.alloc (Obj.cells #[.string nm, .string nd, .int .i64 ev, .int .i64 vol, .int .i64 tot] 23)).alloc (Obj.cells #[.string qm, .string qd, .int .i64 ev', .int .i64 vol', .int .i64 tot'] 23)) 23 #[.string ⟨#[]⟩, .string ⟨#[]⟩, .int .i64 0, .int .i64 0, .int .i64 0]
    rw [show ((w.alloc (Obj.cells #[.string nm, .string nd, .int .i64 ev, .int .i64 vol, .int .i64 tot] 23)).alloc (Obj.cells #[.string qm, .string qd, .int .i64 ev', .int .i64 vol', .int .i64 tot'] 23)).heap.size = w.heap.size + 1 + 1 by simp] at h
    exact h
  have BW : Hid (Below w.heap.size w (((w.alloc (Obj.cells #[.string nm, .string nd, .int .i64 ev, .int .i64 vol, .int .i64 tot] 23)).alloc (Obj.cells #[.string qm, .string qd, .int .i64 ev', .int .i64 vol', .int .i64 tot'] 23)).alloc (Obj.cells #[.string ⟨#[]⟩, .string ⟨#[]⟩, .int .i64 0, .int .i64 0, .int .i64 0] 23))) := by show Below _ _ _; (repeat' (first | assumption | exact Below.refl _ _ | exact Below.size (by assumption) | (refine Below.setCell ?_ ?_ _) | (refine Below.alloc ?_ ?_ _) | (refine Below.drew ?_) | (refine below_drewN ?_ _) | (refine Below.trans ?_ (Below.mono ‹Below _ _ _› ?_)) | omega | (simp; done) | (simp; omega) | (simp at *; omega)))
  by_cases hd : nd = qd
  · rw [if_pos hd] at hR
    have HRr := hR
    rw [← hd] at BA BB BZ BW ⊢
    clear hR hd
    go_enter Tryd.func24, Tryd.ntmps24
    go_upto_region 3 with fail
    generalize (((w.alloc (Obj.cells #[.string nm, .string nd, .int .i64 ev, .int .i64 vol, .int .i64 tot] 23)).alloc (Obj.cells #[.string qm, .string nd, .int .i64 ev', .int .i64 vol', .int .i64 tot'] 23)).alloc (Obj.cells #[.string ⟨#[]⟩, .string ⟨#[]⟩, .int .i64 0, .int .i64 0, .int .i64 0] 23)) = w1 at BA BB BZ BW ⊢
    refine wp_region_still_tail 20 (by kernel_rfl) (by kernel_rfl) ?_
    simp only [List.take_succ_cons, List.take_zero, List.drop_succ_cons, List.drop_zero]
    have BZ2 := Lib.hid (show Blk w1.drew (w.heap.size + 1 + 1) _ _ from BZ.out.drewN 1)
    have BW2 := Lib.hid (show Below w.heap.size w w1.drew from BW.out.drew)
    obtain ⟨a0, a1, a2, a3, a4⟩ := perm_cells (show Blk w1.drew w.heap.size _ _ from BA.out.drewN 1)
    obtain ⟨b0, b1, b2, b3, b4⟩ := perm_cells (show Blk w1.drew (w.heap.size + 1) _ _ from BB.out.drewN 1)
    obtain ⟨z0, z1, z2, z3, z4⟩ := perm_cells BZ2.out
    obtain ⟨f0, f1, f2, f3, f4⟩ := frozen5 BZ2.out
    have l2 := BZ2.out.lt
    change wpStill _ _ w1.drew (fun a' => wpList _ _ _ _ a' w1.drew) _ _
    generalize w1.drew = w2 at BZ2 BW2 a0 a1 a2 a3 a4 b0 b1 b2 b3 b4 z0 z1 z2 z3 z4 f0 f1 f2 f3 f4 l2 ⊢
    repeat still_step
    still_call (still_of (S1.out _))
    repeat still_step
    still_call (still_of (S2.out _))
    repeat still_step
    still_call (still_of (S3.out _))
    repeat still_step
    try refine wpStill_nil ?_
    go_wp2_with fail
    obtain ⟨HE1, he2⟩ := merge_end (w := w) (a := .string nm) (b := .string nd) (c := .int .i64 (min ev ev')) (d := .int .i64 (min vol vol')) (e := .int .i64 (min tot tot')) BZ2.out rfl BW2.out
    have HE2 := Lib.hid he2
    generalize (((((w2.setCell ⟨w.heap.size + 1 + 1, 0, none⟩ (.string nm)).setCell ⟨w.heap.size + 1 + 1, 1, none⟩ (.string nd)).setCell ⟨w.heap.size + 1 + 1, 2, none⟩ (.int .i64 (min ev ev'))).setCell ⟨w.heap.size + 1 + 1, 3, none⟩ (.int .i64 (min vol vol'))).setCell ⟨w.heap.size + 1 + 1, 4, none⟩ (.int .i64 (min tot tot'))) = wq at HE1 he2 HE2 ⊢
    obtain ⟨s0, s1, s2, s3, s4⟩ := perm_cells HE1
    refine bodyPost_ret (v := .tuple #[.agg #[.string nm, .string nd, .int .i64 (min ev ev'), .int .i64 (min vol vol'), .int .i64 (min tot tot')], .int .i64 0]) (by simp [results, Tryd.results24, go_sem, s0, s1, s2, s3, s4]) rfl ⟨by simp [*, zeroPm], HE2.out⟩
  · rw [if_neg hd] at hR
    have u1 : ¬ nd.toList = qd.toList := fun h => hd (bytes_ext39 h)
    have u2 : decide (nd.toList = qd.toList) = false := decide_eq_false u1
    have u3 : (nd.toList == qd.toList) = false := by simp [u1]
    have HRr := hR
    clear hd hR
    go_enter Tryd.func24, Tryd.ntmps24
    go_upto_region 1 with fail
    generalize (((w.alloc (Obj.cells #[.string nm, .string nd, .int .i64 ev, .int .i64 vol, .int .i64 tot] 23)).alloc (Obj.cells #[.string qm, .string qd, .int .i64 ev', .int .i64 vol', .int .i64 tot'] 23)).alloc (Obj.cells #[.string ⟨#[]⟩, .string ⟨#[]⟩, .int .i64 0, .int .i64 0, .int .i64 0] 23)) = w2 at BA BB BZ BW ⊢
    have BZ2 := BZ
    have BW2 := BW
    obtain ⟨a0, a1, a2, a3, a4⟩ := perm_cells BA.out
    obtain ⟨b0, b1, b2, b3, b4⟩ := perm_cells BB.out
    obtain ⟨z0, z1, z2, z3, z4⟩ := perm_cells BZ2.out
    obtain ⟨f0, f1, f2, f3, f4⟩ := frozen5 BZ2.out
    have l2 := BZ2.out.lt
    go_wp2_with fail
    obtain ⟨HE1, he2⟩ := merge_end (w := w) (a := .string ⟨#[]⟩) (b := .string ⟨#[]⟩) (c := .int .i64 0) (d := .int .i64 0) (e := .int .i64 0) BZ2.out rfl BW2.out
    have HE2 := Lib.hid he2
    generalize (((((w2.setCell ⟨w.heap.size + 1 + 1, 0, none⟩ (.string ⟨#[]⟩)).setCell ⟨w.heap.size + 1 + 1, 1, none⟩ (.string ⟨#[]⟩)).setCell ⟨w.heap.size + 1 + 1, 2, none⟩ (.int .i64 0)).setCell ⟨w.heap.size + 1 + 1, 3, none⟩ (.int .i64 0)).setCell ⟨w.heap.size + 1 + 1, 4, none⟩ (.int .i64 0)) = wq at HE1 he2 HE2 ⊢
    obtain ⟨s0, s1, s2, s3, s4⟩ := perm_cells HE1
    refine bodyPost_ret (v := .tuple #[.agg #[.string ⟨#[]⟩, .string ⟨#[]⟩, .int .i64 0, .int .i64 0, .int .i64 0], .int .i64 25]) (by simp [results, Tryd.results24, go_sem, s0, s1, s2, s3, s4]) rfl ⟨by simp [*, zeroPm], HE2.out⟩
end Go.Proofs.YtgbnbafigjijmaaDoor

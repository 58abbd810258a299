/- plain of package network. -/
import Derived.Test.YtdgfljkhnifemaaGreatDoorNetE
import Derived.BigRegion
namespace Go.Proofs.YtdgfljkhnifemaaGreatDoor
open Go.RowKit
set_option linter.unusedVariables false
set_option linter.unusedSimpArgs false

set_option maxRecDepth 100000 in
set_option maxHeartbeats 2000000 in
theorem nplain1 (nm fr tn : ByteArray) (ln up dn : Int) (sc : ByteArray) (wd ht : Int) (A : Option Addr) (n c : Nat) (w : World) :
    Calls Tryz.prog 112 #[.agg #[.string nm, .string fr, .string tn, .int .i64 1, .int .i64 ln, .int .i64 up, .int .i64 dn, .string sc, .int .i64 wd, .int .i64 ht, .slice A n c]] w fun e w' => e = .returned (.agg #[.string nm, .string fr, .string tn, .int .i64 1, .int .i64 ln, .int .i64 up, .int .i64 dn, .string sc, .int .i64 0, .int .i64 0, .slice none 0 0]) ∧ Below w.heap.size w w' := by
  go_enter Tryz.func112, Tryz.ntmps112
  go_wp2_with fail
  all_goals go_region
  all_goals go_wp2_with fail
  all_goals (refine bodyPost_ret (v := .agg #[.string nm, .string fr, .string tn, .int .i64 1, .int .i64 ln, .int .i64 up, .int .i64 dn, .string sc, .int .i64 0, .int .i64 0, .slice none 0 0]) (by simp [results, Tryz.results112, go_sem]) rfl ⟨rfl, ?_⟩)
  all_goals ((repeat' (first | assumption | exact Below.refl _ _ | exact Below.size (by assumption) | (refine Below.setCell ?_ ?_ _) | (refine Below.alloc ?_ ?_ _) | (refine Below.drew ?_) | (refine below_drewN ?_ _) | (refine Below.trans ?_ (Below.mono ‹Below _ _ _› ?_)) | omega | (simp; done) | (simp; omega) | (simp at *; omega))))
set_option maxRecDepth 100000 in
set_option maxHeartbeats 2000000 in
theorem nplain2 (nm fr tn : ByteArray) (ln up dn : Int) (sc : ByteArray) (wd ht : Int) (A : Option Addr) (n c : Nat) (w : World) :
    Calls Tryz.prog 112 #[.agg #[.string nm, .string fr, .string tn, .int .i64 2, .int .i64 ln, .int .i64 up, .int .i64 dn, .string sc, .int .i64 wd, .int .i64 ht, .slice A n c]] w fun e w' => e = .returned (.agg #[.string nm, .string fr, .string tn, .int .i64 2, .int .i64 0, .int .i64 up, .int .i64 0, .string ⟨#[]⟩, .int .i64 wd, .int .i64 0, .slice none 0 0]) ∧ Below w.heap.size w w' := by
  go_enter Tryz.func112, Tryz.ntmps112
  go_wp2_with fail
  all_goals (refine bodyPost_ret (v := .agg #[.string nm, .string fr, .string tn, .int .i64 2, .int .i64 0, .int .i64 up, .int .i64 0, .string ⟨#[]⟩, .int .i64 wd, .int .i64 0, .slice none 0 0]) (by simp [results, Tryz.results112, go_sem]) rfl ⟨rfl, ?_⟩)
  all_goals ((repeat' (first | assumption | exact Below.refl _ _ | exact Below.size (by assumption) | (refine Below.setCell ?_ ?_ _) | (refine Below.alloc ?_ ?_ _) | (refine Below.drew ?_) | (refine below_drewN ?_ _) | (refine Below.trans ?_ (Below.mono ‹Below _ _ _› ?_)) | omega | (simp; done) | (simp; omega) | (simp at *; omega))))
set_option maxRecDepth 100000 in
set_option maxHeartbeats 2000000 in
theorem nplain3 (nm fr tn : ByteArray) (ln up dn : Int) (sc : ByteArray) (wd ht : Int) (A : Option Addr) (n c : Nat) (w : World) :
    Calls Tryz.prog 112 #[.agg #[.string nm, .string fr, .string tn, .int .i64 3, .int .i64 ln, .int .i64 up, .int .i64 dn, .string sc, .int .i64 wd, .int .i64 ht, .slice A n c]] w fun e w' => e = .returned (.agg #[.string nm, .string fr, .string tn, .int .i64 3, .int .i64 0, .int .i64 up, .int .i64 0, .string ⟨#[]⟩, .int .i64 wd, .int .i64 ht, .slice none 0 0]) ∧ Below w.heap.size w w' := by
  go_enter Tryz.func112, Tryz.ntmps112
  go_wp2_with fail
  all_goals go_region
  all_goals go_wp2_with fail
  all_goals (refine bodyPost_ret (v := .agg #[.string nm, .string fr, .string tn, .int .i64 3, .int .i64 0, .int .i64 up, .int .i64 0, .string ⟨#[]⟩, .int .i64 wd, .int .i64 ht, .slice none 0 0]) (by simp [results, Tryz.results112, go_sem]) rfl ⟨rfl, ?_⟩)
  all_goals ((repeat' (first | assumption | exact Below.refl _ _ | exact Below.size (by assumption) | (refine Below.setCell ?_ ?_ _) | (refine Below.alloc ?_ ?_ _) | (refine Below.drew ?_) | (refine below_drewN ?_ _) | (refine Below.trans ?_ (Below.mono ‹Below _ _ _› ?_)) | omega | (simp; done) | (simp; omega) | (simp at *; omega))))
set_option maxRecDepth 100000 in
set_option maxHeartbeats 2000000 in
theorem nplain4 (nm fr tn : ByteArray) (ln up dn : Int) (sc : ByteArray) (wd ht : Int) (A : Option Addr) (n c : Nat) (w : World) :
    Calls Tryz.prog 112 #[.agg #[.string nm, .string fr, .string tn, .int .i64 4, .int .i64 ln, .int .i64 up, .int .i64 dn, .string sc, .int .i64 wd, .int .i64 ht, .slice A n c]] w fun e w' => e = .returned (.agg #[.string nm, .string fr, .string tn, .int .i64 4, .int .i64 0, .int .i64 up, .int .i64 dn, .string ⟨#[]⟩, .int .i64 0, .int .i64 0, .slice A n c]) ∧ Below w.heap.size w w' := by
  go_enter Tryz.func112, Tryz.ntmps112
  go_wp2_with fail
  all_goals go_region
  all_goals go_wp2_with fail
  all_goals (refine bodyPost_ret (v := .agg #[.string nm, .string fr, .string tn, .int .i64 4, .int .i64 0, .int .i64 up, .int .i64 dn, .string ⟨#[]⟩, .int .i64 0, .int .i64 0, .slice A n c]) (by simp [results, Tryz.results112, go_sem]) rfl ⟨rfl, ?_⟩)
  all_goals ((repeat' (first | assumption | exact Below.refl _ _ | exact Below.size (by assumption) | (refine Below.setCell ?_ ?_ _) | (refine Below.alloc ?_ ?_ _) | (refine Below.drew ?_) | (refine below_drewN ?_ _) | (refine Below.trans ?_ (Below.mono ‹Below _ _ _› ?_)) | omega | (simp; done) | (simp; omega) | (simp at *; omega))))
set_option maxRecDepth 100000 in
set_option maxHeartbeats 2000000 in
theorem nplain0 (nm fr tn : ByteArray) (kd ln up dn : Int) (sc : ByteArray) (wd ht : Int) (A : Option Addr) (n c : Nat) (h1 : kd ≠ 1) (h2 : kd ≠ 2) (h3 : kd ≠ 3) (h4 : kd ≠ 4) (w : World) :
    Calls Tryz.prog 112 #[.agg #[.string nm, .string fr, .string tn, .int .i64 kd, .int .i64 ln, .int .i64 up, .int .i64 dn, .string sc, .int .i64 wd, .int .i64 ht, .slice A n c]] w fun e w' => e = .returned (.agg #[.string nm, .string fr, .string tn, .int .i64 kd, .int .i64 0, .int .i64 up, .int .i64 0, .string ⟨#[]⟩, .int .i64 0, .int .i64 0, .slice none 0 0]) ∧ Below w.heap.size w w' := by
  have t1 : (kd == 1) = false := by simpa using h1
  have t2 : (kd == 2) = false := by simpa using h2
  have t3 : (kd == 3) = false := by simpa using h3
  have t4 : (kd == 4) = false := by simpa using h4
  clear h1 h2 h3 h4
  go_enter Tryz.func112, Tryz.ntmps112
  go_wp2_with fail
  all_goals (refine bodyPost_ret (v := .agg #[.string nm, .string fr, .string tn, .int .i64 kd, .int .i64 0, .int .i64 up, .int .i64 0, .string ⟨#[]⟩, .int .i64 0, .int .i64 0, .slice none 0 0]) (by simp [results, Tryz.results112, go_sem]) rfl ⟨rfl, ?_⟩)
  all_goals ((repeat' (first | assumption | exact Below.refl _ _ | exact Below.size (by assumption) | (refine Below.setCell ?_ ?_ _) | (refine Below.alloc ?_ ?_ _) | (refine Below.drew ?_) | (refine below_drewN ?_ _) | (refine Below.trans ?_ (Below.mono ‹Below _ _ _› ?_)) | omega | (simp; done) | (simp; omega) | (simp at *; omega))))
end Go.Proofs.YtdgfljkhnifemaaGreatDoor

/- Merged texts of these proofs: LDfProof. -/
import Derived.Test.YtchakniaoeodmaaGreatDoorMgMs
import Derived.Test.YtchakniaoeodmaaGreatDoorMgP
import Derived.Test.YtchakniaoeodmaaGreatDoorMgDe
import Derived.Test.YtchakniaoeodmaaGreatDoorCards
import Derived.Test.YtchakniaoeodmaaGreatDoorTie
import Derived.SevenTiedAt
import Derived.JoinedOf
import Derived.JoinedAt
import Derived.RowKit3
namespace Go.Proofs.YtchakniaoeodmaaGreatDoor.diffs
open Go.RowKit Go.WideShapes Go.ChangeShapes Go.ChangeAt Go.Deep Go.Joins
set_option linter.unusedVariables false
theorem own:ownKnob Tryz.prog.godebug=none:=by kernel_rfl
set_option maxRecDepth 100000 in
theorem contract (H:Type) (enc:TypeId×Value→H) (W:World) (base:Nat) (args:Array Value) (ds gs:List (DataW H)) (before:List MemPlace)
 (hval:∀(j:Nat) t v,Tryz.f9.params[j]?=some t→args[j]?=some v→Value.okWide Tryz.prog W .any base t v)
 (hW:DataW.Whole enc Tryz.prog Tryz.f9.params.toList Rows.scenarioDiffsSpec.vars false W args.toList ds gs before) (hL:laidMetH Tryz.prog Rows.scenarioDiffsRow.laid W):
 Calls Tryz.prog 9 args W fun e W'=>∃v,e= .returned v∧Rows.scenarioDiffsSpec.post enc Tryz.prog Tryz.f9 false true false false W args v W':=by
 have hW':=hW
 obtain ⟨p,q,hA0,hV,rfl,hfz,hnd⟩:=hW
 have hA:DataW.TrodAll enc Tryz.prog W 0 (fun _=>true) true Tryz.f9.params.toList args.toList ds p:=hA0
 rw [Tryz.params9] at hA hval
 obtain ⟨v0,vs0,d0,ds0,p0,q0,hargs,rfl,rfl,h0,r0⟩:=trodAll_cons hA
 obtain ⟨v1,vs1,d1,ds1,p1,q1,rfl,rfl,rfl,h1,r1⟩:=trodAll_cons r0
 obtain ⟨v2,vs2,d2,ds2,p2,q2,rfl,rfl,rfl,h2,r2⟩:=trodAll_cons r1
 obtain ⟨v3,vs3,d3,ds3,p3,q3,rfl,rfl,rfl,h3,r3⟩:=trodAll_cons r2
 obtain ⟨rfl,rfl,rfl⟩:=trodAll_nil r3
 obtain rfl:args=#[v0,v1,v2,v3]:=by cases args;simp_all
 obtain ⟨rfl,rfl⟩:=trodVars_none hV
 obtain ⟨NA0,LA0,n0,c0,m0,e0,D0,K0,rfl,hD0,hK0⟩:=open_net (hval 0 52 v0 rfl rfl) h0
 obtain ⟨NA1,LA1,n1,c1,m1,e1,D1,K1,rfl,hD1,hK1⟩:=open_net (hval 1 52 v1 rfl rfl) h1
 obtain ⟨A2,n2,c2,S2,rfl,hT2⟩:=open_states (hval 2 73 v2 rfl rfl) h2
 obtain ⟨A3,n3,c3,S3,rfl,hT3⟩:=open_states (hval 3 73 v3 rfl rfl) h3
 exact law_step rfl rfl (by decide+kernel) hW' rfl rfl rfl (l_diffs NA0 LA0 NA1 LA1 A2 A3 n0 c0 m0 e0 n1 c1 m1 e1 n2 c2 n3 c3 D0 D1 K0 K1 S2 S3 W hD0 hK0 hD1 hK1 hT2 hT3)
set_option maxRecDepth 100000 in
theorem lifted (os:Os) (started:os.Started) (H:Type) (enc:TypeId×Value→H):
 ReturnsInHanded {} Tryz.checked os 9 .any (fun w args=>(Rows.scenarioDiffsSpec.pre enc Tryz.prog Tryz.f9 [] false w args∧laidMetH Tryz.prog Rows.scenarioDiffsRow.laid w)∧sizedMet enc Tryz.prog Tryz.f9 (OpenSpec.ofChange Rows.scenarioDiffsSpec) false w args)
  (Rows.scenarioDiffsSpec.post enc Tryz.prog Tryz.f9 false true false false):=by
 refine returnsInHanded_of_change_and (C:=Tryz.checked) (X:=fun w _=>laidMetH Tryz.prog Rows.scenarioDiffsRow.laid w) (fun _ _ _ hh h=>h.of_heap hh) own started (by kernel_rfl) Tryz.func9
  (ChangeSpec.witness_shaped (enc:=enc) (C:=Tryz.checked) (os:=os) (X:=fun w _=>laidMetH Tryz.prog Rows.scenarioDiffsRow.laid w) false (World.laidAll Tryz.prog os Rows.scenarioDiffsRow.laid) #[.agg #[.slice none 0 0,.slice none 0 0],.agg #[.slice none 0 0,.slice none 0 0],.slice none 0 0,.slice none 0 0] 8 (World.laidAll_os _ _ _) (World.shaped_of_RefB (by kernel_rfl) (by kernel_rfl)) (by kernel_rfl) (by kernel_rfl) (by kernel_rfl) (scenarioDiffsRow.door_met os _)) ?_
 intro W base args ds gs before hval hW _ _ hL _
 exact contract H enc W base args ds gs before hval hW hL
set_option maxHeartbeats 4000000 in
theorem closedF:joinedFacts Tryz.pinned.checked.prog 9 Tryz.f9 Rows.scenarioDiffsSpec Rows.scenarioDiffsRow=true:=by
 unfold joinedFacts
 simp only [Bool.and_eq_true]
 repeat' apply And.intro
 all_goals (as_aux_lemma=>kernel_rfl)
set_option maxHeartbeats 4000000 in
theorem said:Rows.ScenarioDiffsSaid:=
 OpenClaim.holds_of_wide 9 Tryz.f9 rfl rfl rfl rfl rfl rfl rfl ⟨rfl,rfl,rfl,rfl,rfl⟩ rfl rfl rfl rfl rfl (by as_aux_lemma=>kernel_rfl) Tryz.func9 closedF
  (of_decide_eq_true (by as_aux_lemma=>kernel_rfl)) (by as_aux_lemma=>unfold Func.isWrapper;rw [if_neg (by decide+kernel)];exact ⟨rfl,rfl⟩)
  (fun os started H enc _=>lifted os started H enc)
set_option maxRecDepth 100000 in
theorem proved:Rows.ScenarioDiffsCardSaid:=
 Claim7.holds_tied_plain_at .later [] [.data, .data, .data, .data, .sentinel, .sentinel, .pinned] true (true, "17da870fcf8695f3a814935e344b92c1969780ceeeac09ab5087f00406ddd641") true
  said (fun _ h=>by cases h) (by as_aux_lemma=>kernel_rfl) (fun _ h=>by cases h) scenarioDiffs_row_tie rfl ⟨rfl,rfl⟩ (by as_aux_lemma=>kernel_rfl) rfl
  (fun f fn hf hfn=>by
    obtain rfl : f = 9 := Option.some.inj ((show Tryz.prog.funcNamed "sewershed/sewershedlaw40.ScenarioDiffs" = some 9 by as_aux_lemma => kernel_rfl).symm.trans hf) |>.symm
    obtain rfl:fn=Tryz.f9:=(Option.some.inj (Tryz.func9.symm.trans hfn)).symm
    exact ⟨by as_aux_lemma=>kernel_rfl,fun j t ht=>by
        rw [Tryz.params9] at ht
        have hm:t∈[52,52,73,73]:=by simpa using Array.mem_of_getElem? ht
        have hall:([52,52,73,73].all fun u=>!Tryz.prog.wantsStandIn u)=true:=by as_aux_lemma=>kernel_rfl
        exact (show Tryz.prog.wantsStandIn t=false by simpa using List.all_eq_true.1 hall t hm)⟩)
  (by as_aux_lemma=>kernel_rfl)
end Go.Proofs.YtchakniaoeodmaaGreatDoor.diffs

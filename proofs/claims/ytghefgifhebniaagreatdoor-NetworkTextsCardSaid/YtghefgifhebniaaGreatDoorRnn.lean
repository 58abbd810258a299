/- The reference's nodeOf. -/
import Derived.Test.YtghefgifhebniaaGreatDoorMgU
namespace Go.Proofs.YtghefgifhebniaaGreatDoor
open Go.RowKit
set_option linter.unusedVariables false
set_option linter.unusedSimpArgs false
set_option maxRecDepth 100000 in
set_option maxHeartbeats 8000000 in
theorem rnodeOf (s:ByteArray) (hs:s.size≤20000) (h10:(10:UInt8)∉s.data.toList) (w:World):Calls Tryz.prog 81 #[.string s] w (RNdPost w s.data.toList):=by
 have hsz:s.size=s.data.toList.length:=rfl
 have SC:=LH fun w'=>rcut s (by omega) 6 (by omega) (by omega) w'
 have HSZ:=LH hs
 have H10:=LH h10
 have HB0:Hid (Blk (w.alloc (Obj.cells zeroN 55)) w.heap.size 55 zeroN):=Blk.new _ _ _
 have HW0:Hid (Below w.heap.size w (w.alloc (Obj.cells zeroN 55))):=(bR _ w).alloc (nl _) _
 unfold zeroN at HB0 HW0
 clear hs h10 hsz
 go_enter Tryz.func81,Tryz.ntmps81
 go_upto_region 2 with (first
  |(go_at_call 119
    refine (SC.out _).mono ?_
    rintro e w1 ⟨R,r,g,cap,hcr,rfl,hst,hcap,hrs,hg,hb1⟩
    have HR1:=LH (HB0.out.call hb1)
    have HW1:=LH (zA1 HW0.out hb1)
    have HCR:=LH hcr
    have HST:Hid (strL w1 g R):=hst
    have HCP:=LH hcap
    have HRS:=LH hrs
    have HGW:Hid (w.heap.size<g):=by have h1:=HB0.out.lt;show _<_;omega
    clear hcr hst hcap hrs hg hb1))
 clear SC HB0 HW0
 by_cases h6:R.length=6
 case neg=>
  have T1:((R.length:Int)!=6)=true:=by simp;omega
  have HNO:Hid (∀y,¬IsNd s.data.toList y):=fun y=>nd_short HCR.out h6 y
  have HF:=HR1.out.frozen
  have hlt:=HR1.out.lt
  obtain ⟨f0,f1,f2,f3,f4,f5,f6,f7,f8⟩:=blk9 HR1.out
  clear h6 HRS HCP HST HCR
  go_wp2_with fail
  change bodyPost _ _ _ _ _ (st9 w1 w.heap.size _ _ _ _ _ _ _ _ _)
  refine fin9 (C:=bodyPost _ _ _ _ _) (E:=fun wz=>TabIn wz none 0 (kX []) (kY [])) HR1.out HW1.out (TabIn.none' _ _ _) fun wz hbk hbl HTB=>?_
  obtain ⟨s0,s1,s2,s3,s4,s5,s6,s7,s8⟩:=blk9 hbk
  refine bodyPost_ret (v:=.tuple #[.agg #[.string ⟨#[]⟩,.int .i64 0,.int .i64 0,.int .i64 0,.int .i64 0,.int .i64 0,.slice none 0 0,.bool false,.int .i64 0],.bool false]) (by simp [results,Tryz.results81,go_sem,s0,s1,s2,s3,s4,s5,s6,s7,s8]) rfl ⟨zNd,none,0,false,rfl,HTB,fun _ _ _ e=>(by cases e),fun h=>(by cases h),fun _=>HNO.out,hbl⟩
 rw [h6]
 obtain ⟨t,ht,hTl⟩:=cut_form HCR.out
 obtain ⟨k0,nm,a,b,c,d,rfl⟩:=six h6
 have HTL:=LH hTl
 have HSX:Hid (Six s.data.toList k0 nm a b c d t):=⟨ht⟩
 have hcap:6≤cap:=HCP.out
 obtain ⟨q0,q1,q2,q3,q4,q5⟩:=zA6 HST.out
 have hlg:=HST.out.1
 have HSZ6:Hid (∀x:ByteArray,x.data.toList∈wds s.data.toList→x.size≤20000):=fun x hx=>by
  have:=zI4 s.data.toList _ hx
  have h2:=HSZ.out
  show x.data.toList.length≤20000
  have:s.data.toList.length=s.size:=rfl
  omega
 clear h6 ht hTl
 by_cases hnm:nm.data.toList=[]
 case pos=>
  have T1:(nm.toList==[])=true:=by rw [Lib.toList_data,hnm];rfl
  have HNO:Hid (∀y,¬IsNd s.data.toList y):=fun y hy=>by
   have h1:=(HSX.out.nd hy).2.1
   rw [h1] at hnm
   exact hy.1.nm.1 hnm
  have HF:=HR1.out.frozen
  have hlt:=HR1.out.lt
  obtain ⟨f0,f1,f2,f3,f4,f5,f6,f7,f8⟩:=blk9 HR1.out
  clear hnm HRS HCP HCR HTL HSX hcap HSZ6
  go_wp2_with fail
  change bodyPost _ _ _ _ _ (st9 w1 w.heap.size _ _ _ _ _ _ _ _ _)
  refine fin9 (C:=bodyPost _ _ _ _ _) (E:=fun wz=>TabIn wz none 0 (kX []) (kY [])) HR1.out HW1.out (TabIn.none' _ _ _) fun wz hbk hbl HTB=>?_
  obtain ⟨s0,s1,s2,s3,s4,s5,s6,s7,s8⟩:=blk9 hbk
  refine bodyPost_ret (v:=.tuple #[.agg #[.string ⟨#[]⟩,.int .i64 0,.int .i64 0,.int .i64 0,.int .i64 0,.int .i64 0,.slice none 0 0,.bool false,.int .i64 0],.bool false]) (by simp [results,Tryz.results81,go_sem,s0,s1,s2,s3,s4,s5,s6,s7,s8]) rfl ⟨zNd,none,0,false,rfl,HTB,fun _ _ _ e=>(by cases e),fun h=>(by cases h),fun _=>HNO.out,hbl⟩
 have T1:(nm.toList==[])=false:=by
  rw [Lib.toList_data]
  cases hx:nm.data.toList with
  |nil=>exact absurd hx hnm
  |cons _ _=>rfl
 have HNM:=LH hnm
 have r1:(2:Int)≤(6:Int):=by omega
 have r2:(6:Int)≤(cap:Int):=by omega
 by_cases hnum:∃v0 v1 v2 v3,NumIs a.data.toList v0∧NumIs b.data.toList v1∧NumIs c.data.toList v2∧NumIs d.data.toList v3
 case neg=>
  have SN:Hid (∀cc w',Below w1.heap.size w1 w'→Calls Tryz.prog 120 #[.slice (some ⟨g,2,none⟩) 4 cc] w' fun e w''=>e= .returned (.tuple #[.slice none 0 0,.bool false])∧Below w'.heap.size w' w''):=fun cc w' hb=>rnum4_no g 2 cc a b c d (HSZ6.out a (by rw [HSX.out.eq];simp)) (HSZ6.out b (by rw [HSX.out.eq];simp)) (HSZ6.out c (by rw [HSX.out.eq];simp)) (HSZ6.out d (by rw [HSX.out.eq];simp)) hnum w' (zB6 (str_tail HST.out) hb)
  have HNO:Hid (∀y,¬IsNd s.data.toList y):=fun y hy=>by
   obtain ⟨_,_,h1,h2,h3,h4,_⟩:=HSX.out.nd hy
   exact hnum ⟨_,_,_,_,by rw [h1];exact zC8 hy.1.ax,by rw [h2];exact zC8 hy.1.ay,by rw [h3];exact zC8 hy.1.iv,by rw [h4];exact zC8 hy.1.gd⟩
  clear hnum hnm HRS HCP HCR HTL HSX HSZ6
  go_upto_region 5 with (first
   |(go_at_call 120
     refine (SN.out _ _ (bR _ _)).mono ?_
     rintro e w2 ⟨rfl,hb2⟩
     have HR2:=LH (HR1.out.call hb2)
     have HW2:=LH (zA1 HW1.out hb2)
     clear hb2))
  have HF:=HR2.out.frozen
  have hlt:=HR2.out.lt
  obtain ⟨f0,f1,f2,f3,f4,f5,f6,f7,f8⟩:=blk9 HR2.out
  clear HR1 HW1 q0 q1 q2 q3 q4 q5 hlg
  go_wp2_with fail
  change bodyPost _ _ _ _ _ (st9 w2 w.heap.size _ _ _ _ _ _ _ _ _)
  refine fin9 (C:=bodyPost _ _ _ _ _) (E:=fun wz=>TabIn wz none 0 (kX []) (kY [])) HR2.out HW2.out (TabIn.none' _ _ _) fun wz hbk hbl HTB=>?_
  obtain ⟨s0,s1,s2,s3,s4,s5,s6,s7,s8⟩:=blk9 hbk
  refine bodyPost_ret (v:=.tuple #[.agg #[.string ⟨#[]⟩,.int .i64 0,.int .i64 0,.int .i64 0,.int .i64 0,.int .i64 0,.slice none 0 0,.bool false,.int .i64 0],.bool false]) (by simp [results,Tryz.results81,go_sem,s0,s1,s2,s3,s4,s5,s6,s7,s8]) rfl ⟨zNd,none,0,false,rfl,HTB,fun _ _ _ e=>(by cases e),fun h=>(by cases h),fun _=>HNO.out,hbl⟩
 obtain ⟨v0,v1,v2,v3,n0,n1,n2,n3⟩:=hnum
 have SN:Hid (∀cc w',Below w1.heap.size w1 w'→Calls Tryz.prog 120 #[.slice (some ⟨g,2,none⟩) 4 cc] w' fun e w''=>∃g2 c2,e= .returned (.tuple #[.slice (some ⟨g2,0,none⟩) 4 c2,.bool true])∧(g2<w''.heap.size∧w''.cell? ⟨g2,0,none⟩=some (.int .i64 v0)∧w''.cell? ⟨g2,1,none⟩=some (.int .i64 v1)∧w''.cell? ⟨g2,2,none⟩=some (.int .i64 v2)∧w''.cell? ⟨g2,3,none⟩=some (.int .i64 v3))∧4≤c2∧Below w'.heap.size w' w''):=fun cc w' hb=>rnum4_ok g 2 cc a b c d (HSZ6.out a (by rw [HSX.out.eq];simp)) (HSZ6.out b (by rw [HSX.out.eq];simp)) (HSZ6.out c (by rw [HSX.out.eq];simp)) (HSZ6.out d (by rw [HSX.out.eq];simp)) v0 v1 v2 v3 n0 n1 n2 n3 w' (zB6 (str_tail HST.out) hb)
 have HNU:Hid (NumIs a.data.toList v0∧NumIs b.data.toList v1∧NumIs c.data.toList v2∧NumIs d.data.toList v3):=⟨n0,n1,n2,n3⟩
 clear n0 n1 n2 n3 hnm
 go_upto_region 7 with (first
  |(go_at_call 120
    refine (SN.out _ _ (bR _ _)).mono ?_
    rintro e w2 ⟨g2,c2,rfl,hg2,hc2,hb2⟩
    have HR2:=LH (HR1.out.call hb2)
    have HW2:=LH (zA1 HW1.out hb2)
    have HST2:Hid (strL w2 g [k0,nm,a,b,c,d]):=zB6 HST.out hb2
    clear hb2))
 obtain ⟨hlg2,p0,p1,p2,p3⟩:=hg2
 clear q0 q1 q2 q3 q4 q5 hlg HR1 HW1 SN
 obtain ⟨q0,q1,q2,q3,q4,q5⟩:=zA6 HST2.out
 have hlg:=HST2.out.1
 have HS:Hid (∀w',Below w2.heap.size w2 w'→w'.cell? ⟨g,1,none⟩=some (.string nm)∧w'.cell? ⟨g2,0,none⟩=some (.int .i64 v0)∧w'.cell? ⟨g2,1,none⟩=some (.int .i64 v1)∧w'.cell? ⟨g2,2,none⟩=some (.int .i64 v2)∧w'.cell? ⟨g2,3,none⟩=some (.int .i64 v3)):=fun w' hb=>⟨(hb.cell (p:=⟨g,1,none⟩) hlg).trans q1,(hb.cell (p:=⟨g2,0,none⟩) hlg2).trans p0,(hb.cell (p:=⟨g2,1,none⟩) hlg2).trans p1,(hb.cell (p:=⟨g2,2,none⟩) hlg2).trans p2,(hb.cell (p:=⟨g2,3,none⟩) hlg2).trans p3⟩
 have hs0:=HS.out w2 (bR _ _)
 go_region_held3 (fun w'=>w'.cell? ⟨g,1,none⟩=some (.string nm)∧w'.cell? ⟨g2,0,none⟩=some (.int .i64 v0)∧w'.cell? ⟨g2,1,none⟩=some (.int .i64 v1)∧w'.cell? ⟨g2,2,none⟩=some (.int .i64 v2)∧w'.cell? ⟨g2,3,none⟩=some (.int .i64 v3)) (first |exact hs0 |exact HS.out _ bel) (fail)
 have hal:Below w2.heap.size w2 ((w2.alloc (.cells #[.string nm,.int .i64 0,.int .i64 v0,.int .i64 v1,.int .i64 v2,.int .i64 v3,.slice none 0 0,.bool false,.int .i64 0] 55)).drew):=((bR _ w2).alloc (nl _) _).drew
 have HX3:Hid (Blk ((w2.alloc (.cells #[.string nm,.int .i64 0,.int .i64 v0,.int .i64 v1,.int .i64 v2,.int .i64 v3,.slice none 0 0,.bool false,.int .i64 0] 55)).drew) w2.heap.size 55 #[.string nm,.int .i64 0,.int .i64 v0,.int .i64 v1,.int .i64 v2,.int .i64 v3,.slice none 0 0,.bool false,.int .i64 0]):=Blk.new w2 _ _
 have HR3:=LH (HR2.out.call hal)
 have HW3:=LH (zA1 HW2.out hal)
 have HST3:Hid (strL _ g [k0,nm,a,b,c,d]):=zB6 HST2.out hal
 have HXW:Hid (w.heap.size<w2.heap.size∧g≠w2.heap.size):=by have h1:=HR2.out.lt;have h2:=hlg;exact ⟨h1,by omega⟩
 clear hal HS hs0 q0 q1 q2 q3 q4 q5 p0 p1 p2 p3 hlg hlg2 HST2
 generalize (w2.alloc (.cells #[.string nm,.int .i64 0,.int .i64 v0,.int .i64 v1,.int .i64 v2,.int .i64 v3,.slice none 0 0,.bool false,.int .i64 0] 55)).drew=w3 at HX3 HR3 HW3 HST3⊢
 generalize w2.heap.size=X at HX3 HXW⊢
 clear HR2 HW2
 obtain ⟨q0,q1,q2,q3,q4,q5⟩:=zA6 HST3.out
 have hlg:=HST3.out.1
 by_cases hko:k0.data.toList=zG4
 case pos=>
  have T2:(k0.toList==[111,117,116,102,97,108,108])=true:=by rw [Lib.toList_data,hko];rfl
  have SW:Hid (∀w',StrAt w' g 0 6 (fun k=>([k0,nm,a,b,c,d]:List ByteArray).getD k ByteArray.empty)→Calls Tryz.prog 121 #[.slice (some ⟨g,0,none⟩) 6 cap] w' fun e w''=>e= .returned (.string ⟨(jn [k0,nm,a,b,c,d]).toArray⟩)∧w'=w''):=fun w' hst=>rwords g 0 6 cap (fun k=>([k0,nm,a,b,c,d]:List ByteArray).getD k ByteArray.empty) (by omega) w' hst (fun k hk=>by
   have:([k0,nm,a,b,c,d]:List ByteArray).getD k ByteArray.empty∈[k0,nm,a,b,c,d]:=by
        rw [List.getD_eq_getElem?_getD,List.getElem?_eq_getElem (by show k<6;exact hk)]
        exact List.getElem_mem _
   refine nT (HSZ6.out _ ?_) (by omega)
   rw [HSX.out.eq]
   simp only [List.mem_cons,List.not_mem_nil,or_false] at this
   rcases this with h |h |h |h |h |h<;> rw [h]<;> simp)
  obtain ⟨Fl,hFl⟩:∃Fl:Bool,Fl=decide (jn [k0,nm,a,b,c,d]=s.data.toList):=⟨_,rfl⟩
  have T3:((⟨(jn [k0,nm,a,b,c,d]).toArray⟩:ByteArray).toList==s.toList)=Fl:=by rw [hFl];exact str_eqB
  have HFL:=LH hFl
  have HKO:=LH hko
  generalize hjj:(⟨(jn [k0,nm,a,b,c,d]).toArray⟩:ByteArray)=jj at SW T3
  clear hFl hko hjj
  obtain ⟨c0,c1,c2',c3,c4,c5,c6,c7,c8⟩:=blk9 HX3.out
  have hfz:=HX3.out.frozen
  have hxl:=HX3.out.lt
  go_upto_region 10 with fail
  have HX4:=LH (HX3.out.set_ 1 (.int .i64 3))
  have HR4:=LH (HR3.out.far (p:=⟨X,1,none⟩) (by have:=HXW.out.1;show w.heap.size≠X;omega) (.int .i64 3))
  have HW4:=LH (HW3.out.setCell (p:=⟨X,1,none⟩) (Nat.le_of_lt HXW.out.1) (.int .i64 3))
  have HST4:=LH (zB0 HST3.out HXW.out.2 1 (.int .i64 3))
  simp only [sA,sB,sC] at HX4
  clear HX3 HR3 HW3 HST3 c0 c1 c2' c3 c4 c5 c6 c7 c8 hfz hxl q0 q1 q2 q3 q4 q5 hlg
  generalize w3.setCell ⟨X,1,none⟩ (.int .i64 3)=w4 at HX4 HR4 HW4 HST4⊢
  have hst5:StrAt w4.drew g 0 6 _:=HST4.out
  obtain ⟨c0,c1,c2',c3,c4,c5,c6,c7,c8⟩:=blk9 HX4.out
  obtain ⟨f0,f1,f2,f3,f4,f5,f6,f7,f8⟩:=blk9 HR4.out
  have hfz:=HR4.out.frozen
  have hxl:=HX4.out.lt
  have hrl:=HR4.out.lt
  have hs0:=blk9 (zB8 HX4.out)
  have hs1:=blk9 (zB8 (zH2 HX4.out (show X≠w.heap.size by have:=HXW.out.1;omega) (.string nm) (.int .i64 3) (.int .i64 v0) (.int .i64 v1) (.int .i64 v2) (.int .i64 v3) (.slice none 0 0) (.bool false) (.int .i64 0)))
  unfold st9 at hs1
  clear HX4 HST4
  go_region_held3 (fun w'=>w'.cell? ⟨X,0,none⟩=some (.string nm)∧w'.cell? ⟨X,1,none⟩=some (.int .i64 3)∧w'.cell? ⟨X,2,none⟩=some (.int .i64 v0)∧w'.cell? ⟨X,3,none⟩=some (.int .i64 v1)∧w'.cell? ⟨X,4,none⟩=some (.int .i64 v2)∧w'.cell? ⟨X,5,none⟩=some (.int .i64 v3)∧w'.cell? ⟨X,6,none⟩=some (.slice none 0 0)∧w'.cell? ⟨X,7,none⟩=some (.bool false)∧w'.cell? ⟨X,8,none⟩=some (.int .i64 0)) (first |with_reducible exact hs0 |with_reducible exact hs1 |exact hs1) (first
   |(go_at_call 121
     refine (SW.out _ hst5).mono ?_
     rintro e w5 ⟨rfl,rfl⟩))
  go_wp2_with fail
  change bodyPost _ _ _ _ _ (st9 w4 w.heap.size _ _ _ _ _ _ _ _ _).drew
  refine fin9d (C:=bodyPost _ _ _ _ _) (E:=fun wz=>TabIn wz none 0 (kX []) (kY [])) HR4.out HW4.out (zI5 (TabIn.none' _ _ _)) fun wz hbk hbl HTB=>?_
  obtain ⟨s0,s1,s2,s3,s4,s5,s6,s7,s8⟩:=blk9 hbk
  refine bodyPost_ret (v:=.tuple #[.agg #[.string nm,.int .i64 3,.int .i64 v0,.int .i64 v1,.int .i64 v2,.int .i64 v3,.slice none 0 0,.bool false,.int .i64 0],.bool Fl]) (by simp [results,Tryz.results81,go_sem,s0,s1,s2,s3,s4,s5,s6,s7,s8]) rfl ⟨⟨nm,3,v0,v1,v2,v3,[],false,0⟩,none,0,Fl,rfl,HTB,fun _ _ _ e=>(by cases e),fun h=>HSX.out.out_yes H10.out HNM.out HNU.out HKO.out (of_decide_eq_true (by rw [←HFL.out];exact h)),fun h=>HSX.out.out_no HKO.out (of_decide_eq_false (by rw [←HFL.out];exact h)),hbl⟩
 have hkoN:(k0.toList==[111,117,116,102,97,108,108])=false:=by
  rw [Lib.toList_data];exact beq_eq_false_iff_ne.2 hko
 have HKO:=LH hko
 clear hko
 obtain ⟨c0,c1,c2',c3,c4,c5,c6,c7,c8⟩:=blk9 HX3.out
 have hfz:=HX3.out.frozen
 have hxl:=HX3.out.lt
 go_upto_region 12 with fail
 have HX4:=LH (HX3.out.set_ 1 (.int .i64 1))
 have HR4:=LH (HR3.out.far (p:=⟨X,1,none⟩) (by have:=HXW.out.1;show w.heap.size≠X;omega) (.int .i64 1))
 have HW4:=LH (HW3.out.setCell (p:=⟨X,1,none⟩) (Nat.le_of_lt HXW.out.1) (.int .i64 1))
 have HST4:=LH (zB0 HST3.out HXW.out.2 1 (.int .i64 1))
 simp only [sA,sB,sC] at HX4
 clear HX3 HR3 HW3 HST3 c0 c1 c2' c3 c4 c5 c6 c7 c8 hfz hxl q0 q1 q2 q3 q4 q5 hlg
 generalize w3.setCell ⟨X,1,none⟩ (.int .i64 1)=w4 at HX4 HR4 HW4 HST4⊢
 obtain ⟨q0,q1,q2,q3,q4,q5⟩:=zA6 HST4.out
 have hlg:=HST4.out.1
 have hr100:r.size≤20000:=nT HRS.out HSZ.out
 have HR100:=LH hr100
 clear hr100
 by_cases hkt:k0.data.toList=kTank
 case neg=>
  have T2:(k0.toList==[116,97,110,107])=false:=by rw [Lib.toList_data];exact beq_eq_false_iff_ne.2 hkt
  obtain ⟨mb,hmb⟩:∃mb:Bool,mb=decide (k0.data.toList=zG5):=⟨_,rfl⟩
  have T3:(k0.toList==[109,97,110,104,111,108,101])=mb:=by
   rw [hmb,Lib.toList_data]
   by_cases h:k0.data.toList=zG5
   ·rw [dT h,h];rfl
   ·rw [dF h];exact beq_eq_false_iff_ne.2 h
  have HMB:=LH hmb
  have HKT:=LH hkt
  clear hmb hkt
  by_cases hp:∃n X Y,TabOK n X Y∧r.data.toList=txL X Y n
  case pos=>
   have SP:=LH fun w'=>rpar_ok r (nT HR100.out (by omega)) hp w'
   clear hp
   obtain ⟨c0,c1,c2',c3,c4,c5,c6,c7,c8⟩:=blk9 HX4.out
   have hfz:=HX4.out.frozen
   have hxl:=HX4.out.lt
   go_upto_region 22 with (first
        |(go_at_call 123
          refine (SP.out _).mono ?_
          rintro e w5 ⟨T,g3,cp,hT,htt,rfl,hg3,htab,hb2⟩
          have HT:=LH hT
          have HTT:=LH htt
          have HG3:=LH (nT (show w4.heap.size≤_ from hg3) (nl _))
          have HTI:=LH htab
          have HX5:=LH (HX4.out.call hb2)
          have HR5:=LH (HR4.out.call hb2)
          have HW5:=LH (zA1 HW4.out hb2)
          have HST5:Hid (strL w5 g [k0,nm,a,b,c,d]):=zB6 HST4.out hb2
          clear hb2 hT htt hg3 htab))
   clear c0 c1 c2' c3 c4 c5 c6 c7 c8 hfz hxl
   have HGX:Hid (X<g3∧w.heap.size<g3):=by have h1:=HG3.out;have h2:=HX4.out.lt;have h3:=HXW.out.1;exact ⟨by omega,by omega⟩
   obtain ⟨c0,c1,c2',c3,c4,c5,c6,c7,c8⟩:=blk9 HX5.out
   have hfz:=HX5.out.frozen
   have hxl:=HX5.out.lt
   go_upto_region 23 with fail
   have HX6:=LH (HX5.out.set_ 6 (.slice (some ⟨g3,0,none⟩) T.length cp))
   have HR6:=LH (HR5.out.far (p:=⟨X,6,none⟩) (by have:=HXW.out.1;show w.heap.size≠X;omega) (.slice (some ⟨g3,0,none⟩) T.length cp))
   have HW6:=LH (HW5.out.setCell (p:=⟨X,6,none⟩) (Nat.le_of_lt HXW.out.1) (.slice (some ⟨g3,0,none⟩) T.length cp))
   have HST6:=LH (zB0 HST5.out HXW.out.2 6 (.slice (some ⟨g3,0,none⟩) T.length cp))
   have HTI6:=LH (TabIn.set (X:=X) (i:=6) HTI.out (fun b off e=>by cases e;exact HGX.out.1) (.slice (some ⟨g3,0,none⟩) T.length cp))
   simp only [sA,sB,sC] at HX6
   clear HX5 HR5 HW5 HST5 c0 c1 c2' c3 c4 c5 c6 c7 c8 hfz hxl
   generalize w5.setCell ⟨X,6,none⟩ (.slice (some ⟨g3,0,none⟩) T.length cp)=w6 at HX6 HR6 HW6 HST6 HTI6⊢
   obtain ⟨f0,f1,f2,f3,f4,f5,f6,f7,f8⟩:=blk9 HR6.out
   have hfz:=HR6.out.frozen
   have hxl:=HX6.out.lt
   have hrl:=HR6.out.lt
   have hgl:=HST6.out.1
   have hs0:=And.intro (blk9 (zB8 HX6.out)) (zA6 (zE0 HST6.out)).1
   have hs1:=And.intro (blk9 (zB8 (zH2 HX6.out (show X≠w.heap.size by have:=HXW.out.1;omega) (.string nm) (.int .i64 1) (.int .i64 v0) (.int .i64 v1) (.int .i64 v2) (.int .i64 v3) (.slice (some ⟨g3,0,none⟩) T.length cp) (.bool false) (.int .i64 0)))) (zA6 (zE0 (zJ3 HST6.out (show g≠w.heap.size by have:=HGW.out;omega) (.string nm) (.int .i64 1) (.int .i64 v0) (.int .i64 v1) (.int .i64 v2) (.int .i64 v3) (.slice (some ⟨g3,0,none⟩) T.length cp) (.bool false) (.int .i64 0)))).1
   unfold st9 at hs1
   obtain ⟨c0,c1,c2',c3,c4,c5,c6,c7,c8⟩:=blk9 HX6.out
   obtain ⟨q0,q1,q2,q3,q4,q5⟩:=zA6 HST6.out
   clear HX6 HST6
   go_region_held3 (fun w'=>(w'.cell? ⟨X,0,none⟩=some (.string nm)∧w'.cell? ⟨X,1,none⟩=some (.int .i64 1)∧w'.cell? ⟨X,2,none⟩=some (.int .i64 v0)∧w'.cell? ⟨X,3,none⟩=some (.int .i64 v1)∧w'.cell? ⟨X,4,none⟩=some (.int .i64 v2)∧w'.cell? ⟨X,5,none⟩=some (.int .i64 v3)∧w'.cell? ⟨X,6,none⟩=some (.slice (some ⟨g3,0,none⟩) T.length cp)∧w'.cell? ⟨X,7,none⟩=some (.bool false)∧w'.cell? ⟨X,8,none⟩=some (.int .i64 0))∧w'.cell? ⟨g,0,none⟩=some (.string k0)) (first |with_reducible exact hs0 |with_reducible exact hs1 |exact hs1) (fail)
   go_wp2_with fail
   change bodyPost _ _ _ _ _ (st9 w6 w.heap.size _ _ _ _ _ _ _ _ _).drew
   refine fin9d (C:=bodyPost _ _ _ _ _) (E:=fun wz=>TabIn wz (some ⟨g3,0,none⟩) T.length (kX T) (kY T)) HR6.out HW6.out (zI5 (HTI6.out.st9 (fun b off e=>(by cases e;exact HGX.out.2)) _ _ _ _ _ _ _ _ _)) fun wz hbk hbl HTB=>?_
   obtain ⟨s0,s1,s2,s3,s4,s5,s6,s7,s8⟩:=blk9 hbk
   refine bodyPost_ret (v:=.tuple #[.agg #[.string nm,.int .i64 1,.int .i64 v0,.int .i64 v1,.int .i64 v2,.int .i64 v3,.slice (some ⟨g3,0,none⟩) T.length cp,.bool false,.int .i64 0],.bool mb]) (by simp [results,Tryz.results81,go_sem,s0,s1,s2,s3,s4,s5,s6,s7,s8]) rfl ⟨⟨nm,1,v0,v1,v2,v3,T,false,0⟩,(some ⟨g3,0,none⟩),cp,mb,rfl,HTB,fun _ b off e=>(by cases e;exact Nat.le_of_lt HGX.out.2),fun h=>HSX.out.is_nd H10.out HNM.out HNU.out (show k0.data.toList=zG5 from of_decide_eq_true (by rw [←HMB.out];exact h)) (.inl ⟨rfl,HT.out,rfl,rfl⟩) (by rw [if_neg (by decide),if_neg (by decide)];exact HTT.out _ HTL.out),fun h=>HSX.out.man_no HKO.out HKT.out (.inl (of_decide_eq_false (by rw [←HMB.out];exact h))),hbl⟩
  case neg=>
   have SP:=LH fun w'=>rpar_no r (nT HR100.out (by omega)) hp w'
   have HPN:Hid (∀T,tabT T→t≠twd T):=fun T hT=>par_none hp HTL.out T hT
   clear hp
   obtain ⟨c0,c1,c2',c3,c4,c5,c6,c7,c8⟩:=blk9 HX4.out
   have hfz:=HX4.out.frozen
   have hxl:=HX4.out.lt
   go_upto_region 22 with (first
        |(go_at_call 123
          refine (SP.out _).mono ?_
          rintro e w5 ⟨rfl,hb2⟩
          have HX5:=LH (HX4.out.call hb2)
          have HR5:=LH (HR4.out.call hb2)
          have HW5:=LH (zA1 HW4.out hb2)
          have HST5:Hid (strL w5 g [k0,nm,a,b,c,d]):=zB6 HST4.out hb2
          clear hb2))
   clear c0 c1 c2' c3 c4 c5 c6 c7 c8 hfz hxl
   obtain ⟨c0,c1,c2',c3,c4,c5,c6,c7,c8⟩:=blk9 HX5.out
   have hfz:=HX5.out.frozen
   have hxl:=HX5.out.lt
   go_upto_region 23 with fail
   have HX6:=LH (HX5.out.set_ 6 (.slice none 0 0))
   have HR6:=LH (HR5.out.far (p:=⟨X,6,none⟩) (by have:=HXW.out.1;show w.heap.size≠X;omega) (.slice none 0 0))
   have HW6:=LH (HW5.out.setCell (p:=⟨X,6,none⟩) (Nat.le_of_lt HXW.out.1) (.slice none 0 0))
   have HST6:=LH (zB0 HST5.out HXW.out.2 6 (.slice none 0 0))
   simp only [sA,sB,sC] at HX6
   clear HX5 HR5 HW5 HST5 c0 c1 c2' c3 c4 c5 c6 c7 c8 hfz hxl
   generalize w5.setCell ⟨X,6,none⟩ (.slice none 0 0)=w6 at HX6 HR6 HW6 HST6⊢
   obtain ⟨f0,f1,f2,f3,f4,f5,f6,f7,f8⟩:=blk9 HR6.out
   have hfz:=HR6.out.frozen
   have hxl:=HX6.out.lt
   have hrl:=HR6.out.lt
   have hgl:=HST6.out.1
   have hs0:=And.intro (blk9 (zB8 HX6.out)) (zA6 (zE0 HST6.out)).1
   have hs1:=And.intro (blk9 (zB8 (zH2 HX6.out (show X≠w.heap.size by have:=HXW.out.1;omega) (.string nm) (.int .i64 1) (.int .i64 v0) (.int .i64 v1) (.int .i64 v2) (.int .i64 v3) (.slice none 0 0) (.bool false) (.int .i64 0)))) (zA6 (zE0 (zJ3 HST6.out (show g≠w.heap.size by have:=HGW.out;omega) (.string nm) (.int .i64 1) (.int .i64 v0) (.int .i64 v1) (.int .i64 v2) (.int .i64 v3) (.slice none 0 0) (.bool false) (.int .i64 0)))).1
   unfold st9 at hs1
   obtain ⟨c0,c1,c2',c3,c4,c5,c6,c7,c8⟩:=blk9 HX6.out
   obtain ⟨q0,q1,q2,q3,q4,q5⟩:=zA6 HST6.out
   clear HX6 HST6
   go_region
   go_wp2_with fail
   change bodyPost _ _ _ _ _ (st9 w6 w.heap.size _ _ _ _ _ _ _ _ _).drew
   refine fin9d (C:=bodyPost _ _ _ _ _) (E:=fun wz=>TabIn wz none 0 (kX []) (kY [])) HR6.out HW6.out (zI5 (TabIn.none' _ _ _)) fun wz hbk hbl HTB=>?_
   obtain ⟨s0,s1,s2,s3,s4,s5,s6,s7,s8⟩:=blk9 hbk
   refine bodyPost_ret (v:=.tuple #[.agg #[.string nm,.int .i64 1,.int .i64 v0,.int .i64 v1,.int .i64 v2,.int .i64 v3,.slice none 0 0,.bool false,.int .i64 0],.bool false]) (by simp [results,Tryz.results81,go_sem,s0,s1,s2,s3,s4,s5,s6,s7,s8]) rfl ⟨⟨nm,1,v0,v1,v2,v3,[],false,0⟩,none,0,false,rfl,HTB,fun _ _ _ e=>(by cases e),fun h=>(by cases h),fun _=>HSX.out.man_no HKO.out HKT.out (.inr HPN.out),hbl⟩
 have T2:(k0.toList==[116,97,110,107])=true:=by rw [Lib.toList_data,hkt];rfl
 have HKT:=LH hkt
 clear hkt
 have SC2:=LH fun w'=>rcut r (nT HR100.out (by omega)) 1 (by omega) (by omega) w'
 obtain ⟨c0,c1,c2',c3,c4,c5,c6,c7,c8⟩:=blk9 HX4.out
 have hfz:=HX4.out.frozen
 have hxl:=HX4.out.lt
 go_upto_region 14 with fail
 have HX5:=LH (HX4.out.set_ 1 (.int .i64 2))
 have HR5:=LH (HR4.out.far (p:=⟨X,1,none⟩) (by have:=HXW.out.1;show w.heap.size≠X;omega) (.int .i64 2))
 have HW5:=LH (HW4.out.setCell (p:=⟨X,1,none⟩) (Nat.le_of_lt HXW.out.1) (.int .i64 2))
 have HST5:=LH (zB0 HST4.out HXW.out.2 1 (.int .i64 2))
 simp only [sA,sB,sC] at HX5
 clear HX4 HR4 HW4 HST4 c0 c1 c2' c3 c4 c5 c6 c7 c8 hfz hxl q0 q1 q2 q3 q4 q5 hlg
 generalize w4.setCell ⟨X,1,none⟩ (.int .i64 2)=w5 at HX5 HR5 HW5 HST5⊢
 go_upto_region 16 with (first
  |(go_at_call 119
    refine (SC2.out _).mono ?_
    rintro e w6 ⟨R2,r2,g4,cap4,hcr,rfl,hst,hcap4,hrs,hg4,hb6⟩
    have hl1:R2.length=1:=by
     have h1:=cut_le hcr
     have h2:=h1.2 (by omega)
     have h3:R2.length≠0:=fun e=>h2 (List.length_eq_zero_iff.1 e)
     omega
    rw [hl1]
    have HX6:=LH (HX5.out.call hb6)
    have HR6:=LH (HR5.out.call hb6)
    have HW6:=LH (zA1 HW5.out hb6)
    have HST6:Hid (strL w6 g [k0,nm,a,b,c,d]):=zB6 HST5.out hb6
    have HCR2:=LH hcr
    have HST4:Hid (strL w6 g4 R2):=hst
    have HRS2:=LH hrs
    have HG4:Hid (X<g4):=by have h1:=HX5.out.lt;show _<_;omega
    have HCP4:Hid (1≤cap4):=by show _≤_;omega
    clear hcr hst hrs hg4 hcap4 hb6))
 obtain ⟨m0,rfl⟩:=one hl1
 clear hl1
 obtain ⟨t2,htl2,htt2⟩:=tl_cut HTL.out HCR2.out
 have HT2:=LH htl2
 have HTT2:=LH htt2
 have hm0:w6.cell? ⟨g4,0,none⟩=some (.string m0):=by
  have h9:=HST4.out.2 0 (by show 0<1;omega)
  exact h9
 have hg4l:=HST4.out.1
 have hr2:r2.size≤20000:=nT HRS2.out HR100.out
 have hm0s:m0.size≤20000:=by
  have h1:m0.data.toList∈wds r.data.toList:=by
   obtain ⟨t3,h3,_⟩:=cut_form HCR2.out
   rw [h3];simp [lm]
  have h2:=zI4 _ _ h1
  have h3:=HR100.out
  show m0.data.toList.length≤20000
  have:r.data.toList.length=r.size:=rfl
  omega
 have HR2S:=LH hr2
 have HM0S:=LH hm0s
 have hcp4:1≤cap4:=HCP4.out
 clear htl2 htt2 HST4 hr2 hm0s
 by_cases hdash:m0.data.toList=[45]
 case pos=>
  have T4:(m0.toList==[45])=true:=by rw [Lib.toList_data,hdash];rfl
  have HTE:Hid (t=[45]::t2):=by
   show _=_
   rw [←hdash]
   exact tl_first HTT2.out (by rw [hdash];simp)
  clear hdash
  go_upto_region 21 with fail
  by_cases hp:∃n X Y,TabOK n X Y∧r2.data.toList=txL X Y n
  case pos=>
   have SP:=LH fun w'=>rpar_ok r2 (nT HR2S.out (by omega)) hp w'
   clear hp hm0 hg4l
   obtain ⟨c0,c1,c2',c3,c4,c5,c6,c7,c8⟩:=blk9 HX6.out
   have hfz:=HX6.out.frozen
   have hxl:=HX6.out.lt
   go_upto_region 22 with (first
        |(go_at_call 123
          refine (SP.out _).mono ?_
          rintro e w7 ⟨T,g3,cp,hT,htt,rfl,hg3,htab,hb2⟩
          have HT:=LH hT
          have HTT:=LH htt
          have HG3:=LH (nT (show w6.heap.size≤_ from hg3) (nl _))
          have HTI:=LH htab
          have HX7:=LH (HX6.out.call hb2)
          have HR7:=LH (HR6.out.call hb2)
          have HW7:=LH (zA1 HW6.out hb2)
          have HST7:Hid (strL w7 g [k0,nm,a,b,c,d]):=zB6 HST6.out hb2
          clear hb2 hT htt hg3 htab))
   clear c0 c1 c2' c3 c4 c5 c6 c7 c8 hfz hxl
   have HGX:Hid (X<g3∧w.heap.size<g3):=by have h1:=HG3.out;have h2:=HX6.out.lt;have h3:=HXW.out.1;exact ⟨by omega,by omega⟩
   obtain ⟨c0,c1,c2',c3,c4,c5,c6,c7,c8⟩:=blk9 HX7.out
   have hfz:=HX7.out.frozen
   have hxl:=HX7.out.lt
   go_upto_region 23 with fail
   have HX8:=LH (HX7.out.set_ 6 (.slice (some ⟨g3,0,none⟩) T.length cp))
   have HR8:=LH (HR7.out.far (p:=⟨X,6,none⟩) (by have:=HXW.out.1;show w.heap.size≠X;omega) (.slice (some ⟨g3,0,none⟩) T.length cp))
   have HW8:=LH (HW7.out.setCell (p:=⟨X,6,none⟩) (Nat.le_of_lt HXW.out.1) (.slice (some ⟨g3,0,none⟩) T.length cp))
   have HST8:=LH (zB0 HST7.out HXW.out.2 6 (.slice (some ⟨g3,0,none⟩) T.length cp))
   have HTI8:=LH (TabIn.set (X:=X) (i:=6) HTI.out (fun b off e=>by cases e;exact HGX.out.1) (.slice (some ⟨g3,0,none⟩) T.length cp))
   simp only [sA,sB,sC] at HX8
   clear HX7 HR7 HW7 HST7 c0 c1 c2' c3 c4 c5 c6 c7 c8 hfz hxl
   generalize w7.setCell ⟨X,6,none⟩ (.slice (some ⟨g3,0,none⟩) T.length cp)=w8 at HX8 HR8 HW8 HST8 HTI8⊢
   obtain ⟨f0,f1,f2,f3,f4,f5,f6,f7,f8⟩:=blk9 HR8.out
   have hfz:=HR8.out.frozen
   have hxl:=HX8.out.lt
   have hrl:=HR8.out.lt
   have hgl:=HST8.out.1
   have hs0:=And.intro (blk9 (zB8 HX8.out)) (zA6 (zE0 HST8.out)).1
   have hs1:=And.intro (blk9 (zB8 (zH2 HX8.out (show X≠w.heap.size by have:=HXW.out.1;omega) (.string nm) (.int .i64 2) (.int .i64 v0) (.int .i64 v1) (.int .i64 v2) (.int .i64 v3) (.slice (some ⟨g3,0,none⟩) T.length cp) (.bool false) (.int .i64 0)))) (zA6 (zE0 (zJ3 HST8.out (show g≠w.heap.size by have:=HGW.out;omega) (.string nm) (.int .i64 2) (.int .i64 v0) (.int .i64 v1) (.int .i64 v2) (.int .i64 v3) (.slice (some ⟨g3,0,none⟩) T.length cp) (.bool false) (.int .i64 0)))).1
   unfold st9 at hs1
   obtain ⟨c0,c1,c2',c3,c4,c5,c6,c7,c8⟩:=blk9 HX8.out
   obtain ⟨q0,q1,q2,q3,q4,q5⟩:=zA6 HST8.out
   clear HX8 HST8
   go_region
   go_wp2_with fail
   change bodyPost _ _ _ _ _ (st9 w8 w.heap.size _ _ _ _ _ _ _ _ _).drew
   refine fin9d (C:=bodyPost _ _ _ _ _) (E:=fun wz=>TabIn wz (some ⟨g3,0,none⟩) T.length (kX T) (kY T)) HR8.out HW8.out (zI5 (HTI8.out.st9 (fun b off e=>(by cases e;exact HGX.out.2)) _ _ _ _ _ _ _ _ _)) fun wz hbk hbl HTB=>?_
   obtain ⟨s0,s1,s2,s3,s4,s5,s6,s7,s8⟩:=blk9 hbk
   refine bodyPost_ret (v:=.tuple #[.agg #[.string nm,.int .i64 2,.int .i64 v0,.int .i64 v1,.int .i64 v2,.int .i64 v3,.slice (some ⟨g3,0,none⟩) T.length cp,.bool false,.int .i64 0],.bool true]) (by simp [results,Tryz.results81,go_sem,s0,s1,s2,s3,s4,s5,s6,s7,s8]) rfl ⟨⟨nm,2,v0,v1,v2,v3,T,false,0⟩,(some ⟨g3,0,none⟩),cp,true,rfl,HTB,fun _ b off e=>(by cases e;exact Nat.le_of_lt HGX.out.2),fun _=>HSX.out.is_nd H10.out HNM.out HNU.out HKT.out (.inr (.inl ⟨rfl,HT.out,.inl ⟨rfl,rfl⟩⟩)) (by rw [if_neg (by decide),if_pos rfl,HTE.out,HTT.out _ HT2.out];rfl),fun h=>(by cases h),hbl⟩
  case neg=>
   have SP:=LH fun w'=>rpar_no r2 (nT HR2S.out (by omega)) hp w'
   have HPN:Hid (∀T,tabT T→t2≠twd T):=fun T hT=>par_none hp HT2.out T hT
   clear hp hm0 hg4l
   obtain ⟨c0,c1,c2',c3,c4,c5,c6,c7,c8⟩:=blk9 HX6.out
   have hfz:=HX6.out.frozen
   have hxl:=HX6.out.lt
   go_upto_region 22 with (first
        |(go_at_call 123
          refine (SP.out _).mono ?_
          rintro e w7 ⟨rfl,hb2⟩
          have HX7:=LH (HX6.out.call hb2)
          have HR7:=LH (HR6.out.call hb2)
          have HW7:=LH (zA1 HW6.out hb2)
          have HST7:Hid (strL w7 g [k0,nm,a,b,c,d]):=zB6 HST6.out hb2
          clear hb2))
   clear c0 c1 c2' c3 c4 c5 c6 c7 c8 hfz hxl
   obtain ⟨c0,c1,c2',c3,c4,c5,c6,c7,c8⟩:=blk9 HX7.out
   have hfz:=HX7.out.frozen
   have hxl:=HX7.out.lt
   go_upto_region 23 with fail
   have HX8:=LH (HX7.out.set_ 6 (.slice none 0 0))
   have HR8:=LH (HR7.out.far (p:=⟨X,6,none⟩) (by have:=HXW.out.1;show w.heap.size≠X;omega) (.slice none 0 0))
   have HW8:=LH (HW7.out.setCell (p:=⟨X,6,none⟩) (Nat.le_of_lt HXW.out.1) (.slice none 0 0))
   have HST8:=LH (zB0 HST7.out HXW.out.2 6 (.slice none 0 0))
   simp only [sA,sB,sC] at HX8
   clear HX7 HR7 HW7 HST7 c0 c1 c2' c3 c4 c5 c6 c7 c8 hfz hxl
   generalize w7.setCell ⟨X,6,none⟩ (.slice none 0 0)=w8 at HX8 HR8 HW8 HST8⊢
   obtain ⟨f0,f1,f2,f3,f4,f5,f6,f7,f8⟩:=blk9 HR8.out
   have hfz:=HR8.out.frozen
   have hxl:=HX8.out.lt
   have hrl:=HR8.out.lt
   have hgl:=HST8.out.1
   have hs0:=And.intro (blk9 (zB8 HX8.out)) (zA6 (zE0 HST8.out)).1
   have hs1:=And.intro (blk9 (zB8 (zH2 HX8.out (show X≠w.heap.size by have:=HXW.out.1;omega) (.string nm) (.int .i64 2) (.int .i64 v0) (.int .i64 v1) (.int .i64 v2) (.int .i64 v3) (.slice none 0 0) (.bool false) (.int .i64 0)))) (zA6 (zE0 (zJ3 HST8.out (show g≠w.heap.size by have:=HGW.out;omega) (.string nm) (.int .i64 2) (.int .i64 v0) (.int .i64 v1) (.int .i64 v2) (.int .i64 v3) (.slice none 0 0) (.bool false) (.int .i64 0)))).1
   unfold st9 at hs1
   obtain ⟨c0,c1,c2',c3,c4,c5,c6,c7,c8⟩:=blk9 HX8.out
   obtain ⟨q0,q1,q2,q3,q4,q5⟩:=zA6 HST8.out
   clear HX8 HST8
   go_region
   go_wp2_with fail
   change bodyPost _ _ _ _ _ (st9 w8 w.heap.size _ _ _ _ _ _ _ _ _).drew
   refine fin9d (C:=bodyPost _ _ _ _ _) (E:=fun wz=>TabIn wz none 0 (kX []) (kY [])) HR8.out HW8.out (zI5 (TabIn.none' _ _ _)) fun wz hbk hbl HTB=>?_
   obtain ⟨s0,s1,s2,s3,s4,s5,s6,s7,s8⟩:=blk9 hbk
   refine bodyPost_ret (v:=.tuple #[.agg #[.string nm,.int .i64 2,.int .i64 v0,.int .i64 v1,.int .i64 v2,.int .i64 v3,.slice none 0 0,.bool false,.int .i64 0],.bool false]) (by simp [results,Tryz.results81,go_sem,s0,s1,s2,s3,s4,s5,s6,s7,s8]) rfl ⟨⟨nm,2,v0,v1,v2,v3,[],false,0⟩,none,0,false,rfl,HTB,fun _ _ _ e=>(by cases e),fun h=>(by cases h),fun _=>tank_dash_no HSX.out HKT.out HTT2.out HPN.out,hbl⟩
 case neg=>
  have T4:(m0.toList==[45])=false:=by rw [Lib.toList_data];exact beq_eq_false_iff_ne.2 hdash
  have HDA:=LH hdash
  have SI:=LH fun w'=>rint m0 (nT HM0S.out (by omega)) w'
  clear hdash
  obtain ⟨c0,c1,c2',c3,c4,c5,c6,c7,c8⟩:=blk9 HX6.out
  have hfz:=HX6.out.frozen
  have hxl:=HX6.out.lt
  go_upto_region 20 with fail
  have HX7:=LH (HX6.out.set_ 7 (.bool true))
  have HR7:=LH (HR6.out.far (p:=⟨X,7,none⟩) (by have:=HXW.out.1;show w.heap.size≠X;omega) (.bool true))
  have HW7:=LH (HW6.out.setCell (p:=⟨X,7,none⟩) (Nat.le_of_lt HXW.out.1) (.bool true))
  have HST7:=LH (zB0 HST6.out HXW.out.2 7 (.bool true))
  have hm1:(w6.setCell ⟨X,7,none⟩ (.bool true)).cell? ⟨g4,0,none⟩=some (.string m0):=(World.cell?_setCell_other w6 ⟨X,7,none⟩ ⟨g4,0,none⟩ _ (by have:=HG4.out;simp<;> omega)).trans hm0
  have hg4m:g4<(w6.setCell ⟨X,7,none⟩ (.bool true)).heap.size:=by
   have:(w6.setCell ⟨X,7,none⟩ (.bool true)).heap.size=w6.heap.size:=by simp [World.setCell]
   rw [this];exact hg4l
  simp only [sA,sB,sC] at HX7
  clear HX6 HR6 HW6 HST6 c0 c1 c2' c3 c4 c5 c6 c7 c8 hfz hxl hm0 hg4l
  generalize w6.setCell ⟨X,7,none⟩ (.bool true)=w7 at HX7 HR7 HW7 HST7 hm1 hg4m⊢
  obtain ⟨c0,c1,c2',c3,c4,c5,c6,c7,c8⟩:=blk9 HX7.out
  have hfz:=HX7.out.frozen
  have hxl:=HX7.out.lt
  go_upto_region 21 with (first
   |(go_at_call 122
     refine (SI.out _).mono ?_
     rintro e w8 ⟨v,vb,hr,rfl,rfl⟩
     have HRI:=LH hr
     clear hr))
  have HX8:=LH (HX7.out.set_ 8 (.int .i64 v))
  have HR8:=LH (HR7.out.far (p:=⟨X,8,none⟩) (by have:=HXW.out.1;show w.heap.size≠X;omega) (.int .i64 v))
  have HW8:=LH (HW7.out.setCell (p:=⟨X,8,none⟩) (Nat.le_of_lt HXW.out.1) (.int .i64 v))
  have HST8:=LH (zB0 HST7.out HXW.out.2 8 (.int .i64 v))
  simp only [sA,sB,sC] at HX8
  clear HX7 HR7 HW7 HST7 c0 c1 c2' c3 c4 c5 c6 c7 c8 hfz hxl hm1 hg4m
  generalize w7.setCell ⟨X,8,none⟩ (.int .i64 v)=w8 at HX8 HR8 HW8 HST8⊢
  cases vb with
  |true=>
   have HNV:Hid (NumIs m0.data.toList v):=by
        show NumIs _ _
        cases HRI.out with
        |ok h=>exact h
   have HTE:Hid (t=Lib.itoa v::t2):=by
        show _=_
        rw [←zB3 HNV.out]
        exact tl_first HTT2.out HNV.out.ne
   by_cases hp:∃n X Y,TabOK n X Y∧r2.data.toList=txL X Y n
   case pos=>
        have SP:=LH fun w'=>rpar_ok r2 (nT HR2S.out (by omega)) hp w'
        clear hp
        obtain ⟨c0,c1,c2',c3,c4,c5,c6,c7,c8⟩:=blk9 HX8.out
        have hfz:=HX8.out.frozen
        have hxl:=HX8.out.lt
        go_upto_region 22 with (first
         |(go_at_call 123
           refine (SP.out _).mono ?_
           rintro e w9 ⟨T,g3,cp,hT,htt,rfl,hg3,htab,hb2⟩
           have HT:=LH hT
           have HTT:=LH htt
           have HG3:=LH (nT (show w8.heap.size≤_ from hg3) (nl _))
           have HTI:=LH htab
           have HX9:=LH (HX8.out.call hb2)
           have HR9:=LH (HR8.out.call hb2)
           have HW9:=LH (zA1 HW8.out hb2)
           have HST9:Hid (strL w9 g [k0,nm,a,b,c,d]):=zB6 HST8.out hb2
           clear hb2 hT htt hg3 htab))
        clear c0 c1 c2' c3 c4 c5 c6 c7 c8 hfz hxl
        have HGX:Hid (X<g3∧w.heap.size<g3):=by have h1:=HG3.out;have h2:=HX8.out.lt;have h3:=HXW.out.1;exact ⟨by omega,by omega⟩
        obtain ⟨c0,c1,c2',c3,c4,c5,c6,c7,c8⟩:=blk9 HX9.out
        have hfz:=HX9.out.frozen
        have hxl:=HX9.out.lt
        go_upto_region 23 with fail
        have HX10:=LH (HX9.out.set_ 6 (.slice (some ⟨g3,0,none⟩) T.length cp))
        have HR10:=LH (HR9.out.far (p:=⟨X,6,none⟩) (by have:=HXW.out.1;show w.heap.size≠X;omega) (.slice (some ⟨g3,0,none⟩) T.length cp))
        have HW10:=LH (HW9.out.setCell (p:=⟨X,6,none⟩) (Nat.le_of_lt HXW.out.1) (.slice (some ⟨g3,0,none⟩) T.length cp))
        have HST10:=LH (zB0 HST9.out HXW.out.2 6 (.slice (some ⟨g3,0,none⟩) T.length cp))
        have HTI10:=LH (TabIn.set (X:=X) (i:=6) HTI.out (fun b off e=>by cases e;exact HGX.out.1) (.slice (some ⟨g3,0,none⟩) T.length cp))
        simp only [sA,sB,sC] at HX10
        clear HX9 HR9 HW9 HST9 c0 c1 c2' c3 c4 c5 c6 c7 c8 hfz hxl
        generalize w9.setCell ⟨X,6,none⟩ (.slice (some ⟨g3,0,none⟩) T.length cp)=w10 at HX10 HR10 HW10 HST10 HTI10⊢
        obtain ⟨f0,f1,f2,f3,f4,f5,f6,f7,f8⟩:=blk9 HR10.out
        have hfz:=HR10.out.frozen
        have hxl:=HX10.out.lt
        have hrl:=HR10.out.lt
        have hgl:=HST10.out.1
        have hs0:=And.intro (blk9 (zB8 HX10.out)) (zA6 (zE0 HST10.out)).1
        have hs1:=And.intro (blk9 (zB8 (zH2 HX10.out (show X≠w.heap.size by have:=HXW.out.1;omega) (.string nm) (.int .i64 2) (.int .i64 v0) (.int .i64 v1) (.int .i64 v2) (.int .i64 v3) (.slice (some ⟨g3,0,none⟩) T.length cp) (.bool true) (.int .i64 v)))) (zA6 (zE0 (zJ3 HST10.out (show g≠w.heap.size by have:=HGW.out;omega) (.string nm) (.int .i64 2) (.int .i64 v0) (.int .i64 v1) (.int .i64 v2) (.int .i64 v3) (.slice (some ⟨g3,0,none⟩) T.length cp) (.bool true) (.int .i64 v)))).1
        unfold st9 at hs1
        obtain ⟨c0,c1,c2',c3,c4,c5,c6,c7,c8⟩:=blk9 HX10.out
        obtain ⟨q0,q1,q2,q3,q4,q5⟩:=zA6 HST10.out
        clear HX10 HST10
        go_region
        go_wp2_with fail
        change bodyPost _ _ _ _ _ (st9 w10 w.heap.size _ _ _ _ _ _ _ _ _).drew
        refine fin9d (C:=bodyPost _ _ _ _ _) (E:=fun wz=>TabIn wz (some ⟨g3,0,none⟩) T.length (kX T) (kY T)) HR10.out HW10.out (zI5 (HTI10.out.st9 (fun b off e=>(by cases e;exact HGX.out.2)) _ _ _ _ _ _ _ _ _)) fun wz hbk hbl HTB=>?_
        obtain ⟨s0,s1,s2,s3,s4,s5,s6,s7,s8⟩:=blk9 hbk
        refine bodyPost_ret (v:=.tuple #[.agg #[.string nm,.int .i64 2,.int .i64 v0,.int .i64 v1,.int .i64 v2,.int .i64 v3,.slice (some ⟨g3,0,none⟩) T.length cp,.bool true,.int .i64 v],.bool true]) (by simp [results,Tryz.results81,go_sem,s0,s1,s2,s3,s4,s5,s6,s7,s8]) rfl ⟨⟨nm,2,v0,v1,v2,v3,T,true,v⟩,(some ⟨g3,0,none⟩),cp,true,rfl,HTB,fun _ b off e=>(by cases e;exact Nat.le_of_lt HGX.out.2),fun _=>HSX.out.is_nd H10.out HNM.out HNU.out HKT.out (.inr (.inl ⟨rfl,HT.out,.inr ⟨rfl,HNV.out.ok⟩⟩)) (by rw [if_neg (by decide),if_pos rfl,HTE.out,HTT.out _ HT2.out];rfl),fun h=>(by cases h),hbl⟩
   case neg=>
        have SP:=LH fun w'=>rpar_no r2 (nT HR2S.out (by omega)) hp w'
        have HPN:Hid (∀T,tabT T→t2≠twd T):=fun T hT=>par_none hp HT2.out T hT
        clear hp
        obtain ⟨c0,c1,c2',c3,c4,c5,c6,c7,c8⟩:=blk9 HX8.out
        have hfz:=HX8.out.frozen
        have hxl:=HX8.out.lt
        go_upto_region 22 with (first
         |(go_at_call 123
           refine (SP.out _).mono ?_
           rintro e w9 ⟨rfl,hb2⟩
           have HX9:=LH (HX8.out.call hb2)
           have HR9:=LH (HR8.out.call hb2)
           have HW9:=LH (zA1 HW8.out hb2)
           have HST9:Hid (strL w9 g [k0,nm,a,b,c,d]):=zB6 HST8.out hb2
           clear hb2))
        clear c0 c1 c2' c3 c4 c5 c6 c7 c8 hfz hxl
        obtain ⟨c0,c1,c2',c3,c4,c5,c6,c7,c8⟩:=blk9 HX9.out
        have hfz:=HX9.out.frozen
        have hxl:=HX9.out.lt
        go_upto_region 23 with fail
        have HX10:=LH (HX9.out.set_ 6 (.slice none 0 0))
        have HR10:=LH (HR9.out.far (p:=⟨X,6,none⟩) (by have:=HXW.out.1;show w.heap.size≠X;omega) (.slice none 0 0))
        have HW10:=LH (HW9.out.setCell (p:=⟨X,6,none⟩) (Nat.le_of_lt HXW.out.1) (.slice none 0 0))
        have HST10:=LH (zB0 HST9.out HXW.out.2 6 (.slice none 0 0))
        simp only [sA,sB,sC] at HX10
        clear HX9 HR9 HW9 HST9 c0 c1 c2' c3 c4 c5 c6 c7 c8 hfz hxl
        generalize w9.setCell ⟨X,6,none⟩ (.slice none 0 0)=w10 at HX10 HR10 HW10 HST10⊢
        obtain ⟨f0,f1,f2,f3,f4,f5,f6,f7,f8⟩:=blk9 HR10.out
        have hfz:=HR10.out.frozen
        have hxl:=HX10.out.lt
        have hrl:=HR10.out.lt
        have hgl:=HST10.out.1
        have hs0:=And.intro (blk9 (zB8 HX10.out)) (zA6 (zE0 HST10.out)).1
        have hs1:=And.intro (blk9 (zB8 (zH2 HX10.out (show X≠w.heap.size by have:=HXW.out.1;omega) (.string nm) (.int .i64 2) (.int .i64 v0) (.int .i64 v1) (.int .i64 v2) (.int .i64 v3) (.slice none 0 0) (.bool true) (.int .i64 v)))) (zA6 (zE0 (zJ3 HST10.out (show g≠w.heap.size by have:=HGW.out;omega) (.string nm) (.int .i64 2) (.int .i64 v0) (.int .i64 v1) (.int .i64 v2) (.int .i64 v3) (.slice none 0 0) (.bool true) (.int .i64 v)))).1
        unfold st9 at hs1
        obtain ⟨c0,c1,c2',c3,c4,c5,c6,c7,c8⟩:=blk9 HX10.out
        obtain ⟨q0,q1,q2,q3,q4,q5⟩:=zA6 HST10.out
        clear HX10 HST10
        go_region
        go_wp2_with fail
        change bodyPost _ _ _ _ _ (st9 w10 w.heap.size _ _ _ _ _ _ _ _ _).drew
        refine fin9d (C:=bodyPost _ _ _ _ _) (E:=fun wz=>TabIn wz none 0 (kX []) (kY [])) HR10.out HW10.out (zI5 (TabIn.none' _ _ _)) fun wz hbk hbl HTB=>?_
        obtain ⟨s0,s1,s2,s3,s4,s5,s6,s7,s8⟩:=blk9 hbk
        refine bodyPost_ret (v:=.tuple #[.agg #[.string nm,.int .i64 2,.int .i64 v0,.int .i64 v1,.int .i64 v2,.int .i64 v3,.slice none 0 0,.bool true,.int .i64 v],.bool false]) (by simp [results,Tryz.results81,go_sem,s0,s1,s2,s3,s4,s5,s6,s7,s8]) rfl ⟨⟨nm,2,v0,v1,v2,v3,[],true,v⟩,none,0,false,rfl,HTB,fun _ _ _ e=>(by cases e),fun h=>(by cases h),fun _=>tank_dash_no HSX.out HKT.out HTT2.out HPN.out,hbl⟩
  |false=>
   have HNN:Hid (∀u,¬NumIs m0.data.toList u):=by
        show∀u,_
        cases HRI.out with
        |no h=>exact h
   by_cases hp:∃n X Y,TabOK n X Y∧r2.data.toList=txL X Y n
   case pos=>
        have SP:=LH fun w'=>rpar_ok r2 (nT HR2S.out (by omega)) hp w'
        clear hp
        obtain ⟨c0,c1,c2',c3,c4,c5,c6,c7,c8⟩:=blk9 HX8.out
        have hfz:=HX8.out.frozen
        have hxl:=HX8.out.lt
        go_upto_region 22 with (first
         |(go_at_call 123
           refine (SP.out _).mono ?_
           rintro e w9 ⟨T,g3,cp,hT,htt,rfl,hg3,htab,hb2⟩
           have HG3:=LH (nT (show w8.heap.size≤_ from hg3) (nl _))
           have HTI:=LH htab
           have HX9:=LH (HX8.out.call hb2)
           have HR9:=LH (HR8.out.call hb2)
           have HW9:=LH (zA1 HW8.out hb2)
           have HST9:Hid (strL w9 g [k0,nm,a,b,c,d]):=zB6 HST8.out hb2
           clear hb2 hT htt hg3 htab))
        clear c0 c1 c2' c3 c4 c5 c6 c7 c8 hfz hxl
        have HGX:Hid (X<g3∧w.heap.size<g3):=by have h1:=HG3.out;have h2:=HX8.out.lt;have h3:=HXW.out.1;exact ⟨by omega,by omega⟩
        obtain ⟨c0,c1,c2',c3,c4,c5,c6,c7,c8⟩:=blk9 HX9.out
        have hfz:=HX9.out.frozen
        have hxl:=HX9.out.lt
        go_upto_region 23 with fail
        have HX10:=LH (HX9.out.set_ 6 (.slice (some ⟨g3,0,none⟩) T.length cp))
        have HR10:=LH (HR9.out.far (p:=⟨X,6,none⟩) (by have:=HXW.out.1;show w.heap.size≠X;omega) (.slice (some ⟨g3,0,none⟩) T.length cp))
        have HW10:=LH (HW9.out.setCell (p:=⟨X,6,none⟩) (Nat.le_of_lt HXW.out.1) (.slice (some ⟨g3,0,none⟩) T.length cp))
        have HST10:=LH (zB0 HST9.out HXW.out.2 6 (.slice (some ⟨g3,0,none⟩) T.length cp))
        have HTI10:=LH (TabIn.set (X:=X) (i:=6) HTI.out (fun b off e=>by cases e;exact HGX.out.1) (.slice (some ⟨g3,0,none⟩) T.length cp))
        simp only [sA,sB,sC] at HX10
        clear HX9 HR9 HW9 HST9 c0 c1 c2' c3 c4 c5 c6 c7 c8 hfz hxl
        generalize w9.setCell ⟨X,6,none⟩ (.slice (some ⟨g3,0,none⟩) T.length cp)=w10 at HX10 HR10 HW10 HST10 HTI10⊢
        obtain ⟨f0,f1,f2,f3,f4,f5,f6,f7,f8⟩:=blk9 HR10.out
        have hfz:=HR10.out.frozen
        have hxl:=HX10.out.lt
        have hrl:=HR10.out.lt
        have hgl:=HST10.out.1
        have hs0:=And.intro (blk9 (zB8 HX10.out)) (zA6 (zE0 HST10.out)).1
        have hs1:=And.intro (blk9 (zB8 (zH2 HX10.out (show X≠w.heap.size by have:=HXW.out.1;omega) (.string nm) (.int .i64 2) (.int .i64 v0) (.int .i64 v1) (.int .i64 v2) (.int .i64 v3) (.slice (some ⟨g3,0,none⟩) T.length cp) (.bool true) (.int .i64 v)))) (zA6 (zE0 (zJ3 HST10.out (show g≠w.heap.size by have:=HGW.out;omega) (.string nm) (.int .i64 2) (.int .i64 v0) (.int .i64 v1) (.int .i64 v2) (.int .i64 v3) (.slice (some ⟨g3,0,none⟩) T.length cp) (.bool true) (.int .i64 v)))).1
        unfold st9 at hs1
        obtain ⟨c0,c1,c2',c3,c4,c5,c6,c7,c8⟩:=blk9 HX10.out
        obtain ⟨q0,q1,q2,q3,q4,q5⟩:=zA6 HST10.out
        clear HX10 HST10
        go_region
        go_wp2_with fail
        change bodyPost _ _ _ _ _ (st9 w10 w.heap.size _ _ _ _ _ _ _ _ _).drew
        refine fin9d (C:=bodyPost _ _ _ _ _) (E:=fun wz=>TabIn wz (some ⟨g3,0,none⟩) T.length (kX T) (kY T)) HR10.out HW10.out (zI5 (HTI10.out.st9 (fun b off e=>(by cases e;exact HGX.out.2)) _ _ _ _ _ _ _ _ _)) fun wz hbk hbl HTB=>?_
        obtain ⟨s0,s1,s2,s3,s4,s5,s6,s7,s8⟩:=blk9 hbk
        refine bodyPost_ret (v:=.tuple #[.agg #[.string nm,.int .i64 2,.int .i64 v0,.int .i64 v1,.int .i64 v2,.int .i64 v3,.slice (some ⟨g3,0,none⟩) T.length cp,.bool true,.int .i64 v],.bool false]) (by simp [results,Tryz.results81,go_sem,s0,s1,s2,s3,s4,s5,s6,s7,s8]) rfl ⟨⟨nm,2,v0,v1,v2,v3,T,true,v⟩,(some ⟨g3,0,none⟩),cp,false,rfl,HTB,fun _ b off e=>(by cases e;exact Nat.le_of_lt HGX.out.2),fun h=>(by cases h),fun _=>tank_num_no HSX.out HKT.out HTT2.out HDA.out HNN.out,hbl⟩
   case neg=>
        have SP:=LH fun w'=>rpar_no r2 (nT HR2S.out (by omega)) hp w'
        clear hp
        obtain ⟨c0,c1,c2',c3,c4,c5,c6,c7,c8⟩:=blk9 HX8.out
        have hfz:=HX8.out.frozen
        have hxl:=HX8.out.lt
        go_upto_region 22 with (first
         |(go_at_call 123
           refine (SP.out _).mono ?_
           rintro e w9 ⟨rfl,hb2⟩
           have HX9:=LH (HX8.out.call hb2)
           have HR9:=LH (HR8.out.call hb2)
           have HW9:=LH (zA1 HW8.out hb2)
           have HST9:Hid (strL w9 g [k0,nm,a,b,c,d]):=zB6 HST8.out hb2
           clear hb2))
        clear c0 c1 c2' c3 c4 c5 c6 c7 c8 hfz hxl
        obtain ⟨c0,c1,c2',c3,c4,c5,c6,c7,c8⟩:=blk9 HX9.out
        have hfz:=HX9.out.frozen
        have hxl:=HX9.out.lt
        go_upto_region 23 with fail
        have HX10:=LH (HX9.out.set_ 6 (.slice none 0 0))
        have HR10:=LH (HR9.out.far (p:=⟨X,6,none⟩) (by have:=HXW.out.1;show w.heap.size≠X;omega) (.slice none 0 0))
        have HW10:=LH (HW9.out.setCell (p:=⟨X,6,none⟩) (Nat.le_of_lt HXW.out.1) (.slice none 0 0))
        have HST10:=LH (zB0 HST9.out HXW.out.2 6 (.slice none 0 0))
        simp only [sA,sB,sC] at HX10
        clear HX9 HR9 HW9 HST9 c0 c1 c2' c3 c4 c5 c6 c7 c8 hfz hxl
        generalize w9.setCell ⟨X,6,none⟩ (.slice none 0 0)=w10 at HX10 HR10 HW10 HST10⊢
        obtain ⟨f0,f1,f2,f3,f4,f5,f6,f7,f8⟩:=blk9 HR10.out
        have hfz:=HR10.out.frozen
        have hxl:=HX10.out.lt
        have hrl:=HR10.out.lt
        have hgl:=HST10.out.1
        have hs0:=And.intro (blk9 (zB8 HX10.out)) (zA6 (zE0 HST10.out)).1
        have hs1:=And.intro (blk9 (zB8 (zH2 HX10.out (show X≠w.heap.size by have:=HXW.out.1;omega) (.string nm) (.int .i64 2) (.int .i64 v0) (.int .i64 v1) (.int .i64 v2) (.int .i64 v3) (.slice none 0 0) (.bool true) (.int .i64 v)))) (zA6 (zE0 (zJ3 HST10.out (show g≠w.heap.size by have:=HGW.out;omega) (.string nm) (.int .i64 2) (.int .i64 v0) (.int .i64 v1) (.int .i64 v2) (.int .i64 v3) (.slice none 0 0) (.bool true) (.int .i64 v)))).1
        unfold st9 at hs1
        obtain ⟨c0,c1,c2',c3,c4,c5,c6,c7,c8⟩:=blk9 HX10.out
        obtain ⟨q0,q1,q2,q3,q4,q5⟩:=zA6 HST10.out
        clear HX10 HST10
        go_region
        go_wp2_with fail
        change bodyPost _ _ _ _ _ (st9 w10 w.heap.size _ _ _ _ _ _ _ _ _).drew
        refine fin9d (C:=bodyPost _ _ _ _ _) (E:=fun wz=>TabIn wz none 0 (kX []) (kY [])) HR10.out HW10.out (zI5 (TabIn.none' _ _ _)) fun wz hbk hbl HTB=>?_
        obtain ⟨s0,s1,s2,s3,s4,s5,s6,s7,s8⟩:=blk9 hbk
        refine bodyPost_ret (v:=.tuple #[.agg #[.string nm,.int .i64 2,.int .i64 v0,.int .i64 v1,.int .i64 v2,.int .i64 v3,.slice none 0 0,.bool true,.int .i64 v],.bool false]) (by simp [results,Tryz.results81,go_sem,s0,s1,s2,s3,s4,s5,s6,s7,s8]) rfl ⟨⟨nm,2,v0,v1,v2,v3,[],true,v⟩,none,0,false,rfl,HTB,fun _ _ _ e=>(by cases e),fun h=>(by cases h),fun _=>tank_num_no HSX.out HKT.out HTT2.out HDA.out HNN.out,hbl⟩
end Go.Proofs.YtghefgifhebniaaGreatDoor

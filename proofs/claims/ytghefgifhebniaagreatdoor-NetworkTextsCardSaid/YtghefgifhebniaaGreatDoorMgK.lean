/- Merged texts of these proofs: Rnl, Rtx, Rll. -/
import Derived.Test.YtghefgifhebniaaGreatDoorMgU
import Derived.Test.YtghefgifhebniaaGreatDoorMgW
import Derived.Test.YtghefgifhebniaaGreatDoorMgT
namespace Go.Proofs.YtghefgifhebniaaGreatDoor
open Go.RowKit
set_option linter.unusedVariables false
set_option linter.unusedSimpArgs false
theorem rnum (v:Int) (h:near v) (w:World):Calls Tryz.prog 126 #[.int .i64 v] w fun e w'=>e= .returned (.string (nBA v))∧w=w':=by
 have S:Hid (∀w,Calls Tryz.prog 157 #[.int .i64 v] w fun e w'=>e= .returned (.string (nBA v))∧w=w'):=fun w=>rdec v h w
 generalize nBA v=b at S
 clear h
 go_enter Tryz.func126,Tryz.ntmps126
 go_wp2_with (first
  |(go_at_call 157
    with_reducible refine (S.out _).mono ?_
    rintro e w5 ⟨rfl,rfl⟩))
 go_ret
 exact ⟨rfl,rfl⟩
theorem row_of_blk {w:World} {B g n:Nat} {L:List ByteArray} (h:Blk w g 9 (L.map Value.string).toArray) (hB:B≤g) (hn:n=L.length) (hm:n≤1000):w.ownsRow B 9 1 (.slice (some ⟨g,0,none⟩) n n) n (sc L):=by
 subst hn
 have hml:L.length≤maxLen:=by unfold maxLen;omega
 refine ⟨by simp [sc],.inr ⟨g,L.length,(L.map Value.string).toArray,rfl,hB,h,nl _,hml,by simp,?_⟩⟩
 show (L.map Value.string).take (L.length*1)=_
 rw [Nat.mul_one,List.take_of_length_le (by simp)]
 rfl
set_option maxRecDepth 100000 in
set_option maxHeartbeats 8000000 in
theorem rnodeLine (x:Ndr) (A:Option Addr) (cc:Nat) (hv:vNd x) (w:World) (ht:TabIn w A x.T.length (kX x.T) (kY x.T)):
 Calls Tryz.prog 87 #[.agg (ncs x A cc).toArray] w fun e w'=>e= .returned (.string ⟨(ndT x).toArray⟩)∧Below w.heap.size w w':=by
 obtain ⟨n1,n2,n3,n4,n5⟩:=hv.num
 have hnm:=hv.1
 have htab:=hv.tab
 have hform:=hv.form.kd
 have HLEN:Hid ((ndT x).length≤3000):=nT hv.len (by omega)
 have HND:Hid (ndT x=jn (ndB x)):=rfl
 unfold ncs
 obtain ⟨nm,kd,ax,ay,iv,gd,T,pt,rs⟩:=x
 simp only at*
 have S1:=LH fun w'=>rnum ax n1 w'
 have S2:=LH fun w'=>rnum ay n2 w'
 have S3:=LH fun w'=>rnum iv n3 w'
 have S4:=LH fun w'=>rnum gd n4 w'
 have HT:=LH ht
 have hbx:=Blk.new w 55 #[.string nm,.int .i64 kd,.int .i64 ax,.int .i64 ay,.int .i64 iv,.int .i64 gd,.slice A T.length cc,.bool pt,.int .i64 rs]
 have HBX:=LH hbx
 have HW1:Hid (Below w.heap.size w (w.alloc (.cells #[.string nm,.int .i64 kd,.int .i64 ax,.int .i64 ay,.int .i64 iv,.int .i64 gd,.slice A T.length cc,.bool pt,.int .i64 rs] 55))):=(bR _ w).alloc (nl _) _
 clear hbx ht
 obtain ⟨b1,hb1⟩:∃b,nBA ax=b:=⟨_,rfl⟩
 obtain ⟨b2,hb2⟩:∃b,nBA ay=b:=⟨_,rfl⟩
 obtain ⟨b3,hb3⟩:∃b,nBA iv=b:=⟨_,rfl⟩
 obtain ⟨b4,hb4⟩:∃b,nBA gd=b:=⟨_,rfl⟩
 rw [hb1] at S1
 rw [hb2] at S2
 rw [hb3] at S3
 rw [hb4] at S4
 go_enter Tryz.func87,Tryz.ntmps87
 go_upto_region 1 with fail
 generalize w.alloc (.cells #[.string nm,.int .i64 kd,.int .i64 ax,.int .i64 ay,.int .i64 iv,.int .i64 gd,.slice A T.length cc,.bool pt,.int .i64 rs] 55)=w1 at HBX HW1⊢
 obtain ⟨c0,c1,c2',c3,c4,c5,c6,c7,c8⟩:=blk9 HBX.out
 have hs0:w1.drew.cell? ⟨w.heap.size,0,none⟩=some (.string nm)∧w1.drew.cell? ⟨w.heap.size,2,none⟩=some (.int .i64 ax)∧w1.drew.cell? ⟨w.heap.size,3,none⟩=some (.int .i64 ay)∧w1.drew.cell? ⟨w.heap.size,4,none⟩=some (.int .i64 iv)∧w1.drew.cell? ⟨w.heap.size,5,none⟩=some (.int .i64 gd):=⟨c0,c2',c3,c4,c5⟩
 have HS:Hid (∀w',Below w1.heap.size w1 w'→w'.cell? ⟨w.heap.size,0,none⟩=some (.string nm)∧w'.cell? ⟨w.heap.size,2,none⟩=some (.int .i64 ax)∧w'.cell? ⟨w.heap.size,3,none⟩=some (.int .i64 ay)∧w'.cell? ⟨w.heap.size,4,none⟩=some (.int .i64 iv)∧w'.cell? ⟨w.heap.size,5,none⟩=some (.int .i64 gd)):=fun w' hb=>by
  obtain ⟨d0,d1,d2,d3,d4,d5,d6,d7,d8⟩:=blk9 (HBX.out.call hb)
  exact ⟨d0,d2,d3,d4,d5⟩
 go_region_held3 (fun w'=>w'.cell? ⟨w.heap.size,0,none⟩=some (.string nm)∧w'.cell? ⟨w.heap.size,2,none⟩=some (.int .i64 ax)∧w'.cell? ⟨w.heap.size,3,none⟩=some (.int .i64 ay)∧w'.cell? ⟨w.heap.size,4,none⟩=some (.int .i64 iv)∧w'.cell? ⟨w.heap.size,5,none⟩=some (.int .i64 gd)) (first |with_reducible exact hs0 |exact HS.out _ bel) (first
  |(go_at_call 126
    with_reducible refine (S1.out _).mono ?_
    rintro e w5 ⟨rfl,rfl⟩)
  |(go_at_call 126
    with_reducible refine (S2.out _).mono ?_
    rintro e w5 ⟨rfl,rfl⟩)
  |(go_at_call 126
    with_reducible refine (S3.out _).mono ?_
    rintro e w5 ⟨rfl,rfl⟩)
  |(go_at_call 126
    with_reducible refine (S4.out _).mono ?_
    rintro e w5 ⟨rfl,rfl⟩))
 -- BEHIND THE FIRST REGION
 have hal:Below w1.heap.size w1 ((w1.alloc (.cells #[.string ⟨#[109,97,110,104,111,108,101]⟩,.string nm,.string b1,.string b2,.string b3,.string b4] 9)).drew):=((bR _ w1).alloc (nl _) _).drew
 have hL2:Blk ((w1.alloc (.cells #[.string ⟨#[109,97,110,104,111,108,101]⟩,.string nm,.string b1,.string b2,.string b3,.string b4] 9)).drew) w1.heap.size 9 ([(⟨#[109,97,110,104,111,108,101]⟩:ByteArray),nm,b1,b2,b3,b4].map Value.string).toArray:=Blk.new w1 9 _
 have HX2:=LH (HBX.out.call hal)
 have HL2:=LH hL2
 have HM2:Hid (RMem w _ (.slice (some ⟨w1.heap.size,0,none⟩) 6 6) 6 [(⟨#[109,97,110,104,111,108,101]⟩:ByteArray),nm,b1,b2,b3,b4]):=⟨row_of_blk hL2 HW1.out.size rfl (by omega),zA1 HW1.out hal⟩
 have HGX:Hid (w.heap.size<w1.heap.size):=HBX.out.lt
 clear hal hL2 c0 c1 c2' c3 c4 c5 c6 c7 c8 hs0 HS HBX HW1
 generalize (w1.alloc (.cells #[.string ⟨#[109,97,110,104,111,108,101]⟩,.string nm,.string b1,.string b2,.string b3,.string b4] 9)).drew=w2 at HX2 HM2 HL2⊢
 generalize w1.heap.size=g at HM2 HGX HL2⊢
 obtain ⟨SI0,si0,sz0,sz1,sz2⟩:=zA8 infoS
 have SI1:=LH si0
 have SI2:=LH sz0
 have SI3:=LH sz1
 have SI4:=LH sz2
 clear si0 sz0 sz1 sz2
 have hnms:nm.size≤20:=(zF5 hnm).2.2.2
 have hl1:b1.size≤20:=by rw [←hb1];exact nT (zD6 n1) (by omega)
 have hl2:b2.size≤20:=by rw [←hb2];exact nT (zD6 n2) (by omega)
 have hl3:b3.size≤20:=by rw [←hb3];exact nT (zD6 n3) (by omega)
 have hl4:b4.size≤20:=by rw [←hb4];exact nT (zD6 n4) (by omega)
 have SW:Hid (∀(R:List ByteArray) (g' c':Nat) (w':World),R.length≤9→(∀b,b∈R→b.size≤3000)→StrAt w' g' 0 R.length (fun k=>R.getD k ByteArray.empty)→Calls Tryz.prog 121 #[.slice (some ⟨g',0,none⟩) R.length c'] w' fun e w''=>e= .returned (.string ⟨(jn R).toArray⟩)∧w'=w''):=fun R g' c' w' hR hs hst=>by
  have h9:=rwords g' 0 R.length c' (fun k=>R.getD k ByteArray.empty) hR w' hst (fun k hk=>by
   refine nT (hs _ ?_) (by omega)
   rw [List.getD_eq_getElem?_getD,List.getElem?_eq_getElem hk]
   exact List.getElem_mem hk)
  have e:wl (fun k=>R.getD k ByteArray.empty) R.length=R:=by
   apply List.ext_getElem (by simp [wl])
   intro k h1 h2
   simp [wl,List.getD,h2]
  rw [e] at h9
  exact h9
 rcases hform with ⟨rfl,h2,h3,h4⟩|⟨rfl,h2,h3⟩|⟨rfl,h2,h3,h4⟩
 ·have hkey:=k_man (x:=⟨nm,1,ax,ay,iv,gd,T,pt,rs⟩) rfl
  obtain ⟨t1,t2⟩:=htab (by decide)
  obtain ⟨bq,off,rfl,hta⟩:=tab_at HT.out t1.1
  have HTS:Hid ((tBA T).size≤2500):=t2
  have ST':Hid (∀w',Below w.heap.size w w'→Calls Tryz.prog 127 #[.slice (some ⟨bq,off,none⟩) T.length cc] w' fun e w''=>e= .returned (.string (tBA T))∧Below w'.heap.size w' w''):=fun w' hb=>zK4 bq off T.length cc (kX T) (kY T) w' t1 (hta.below hb hta.1)
  have HEQ:Hid (ndT ⟨nm,1,ax,ay,iv,gd,T,pt,rs⟩=jn ([(⟨#[109,97,110,104,111,108,101]⟩:ByteArray),nm,b1,b2,b3,b4]++[tBA T])):=by
   refine HND.out.trans ?_
   unfold ndB
   rw [hkey,←hb1,←hb2,←hb3,←hb4]
   simp
  have HSZ:Hid (∀b,b∈([(⟨#[109,97,110,104,111,108,101]⟩:ByteArray),nm,b1,b2,b3,b4]++[tBA T])→b.size≤3000):=by
   intro b hb
   have h9:=HTS.out
   simp only [List.cons_append,List.nil_append,List.mem_cons,List.not_mem_nil,or_false] at hb
   rcases hb with rfl |rfl |rfl |rfl |rfl |rfl |rfl
   ·decide
   ·exact nT hnms (by omega)
   ·exact nT hl1 (by omega)
   ·exact nT hl2 (by omega)
   ·exact nT hl3 (by omega)
   ·exact nT hl4 (by omega)
   ·exact nT h9 (by omega)
  obtain ⟨c0,c1,c2',c3,c4,c5,c6,c7,c8⟩:=blk9 HX2.out
  clear hta t1 t2 htab hv n1 n2 n3 n4 n5 hb1 hb2 hb3 hb4
  generalize tBA T=tb at ST' HEQ HSZ
  go_wp2_with (first
   |(go_at_call 127
     refine (ST'.out _ ?_).mono ?_
     focus (exact HM2.out.2)
     rintro e w5 ⟨rfl,hb5⟩
     have HM5:=LH (HM2.out.call hb5)
     clear hb5)
   |(at_builtin;refine wpList_append_own_at _ ?m1aa (.tmp 43) (.tmp 47) 41 ?m1ab (w.heap.size) 9 SI0 (.string ByteArray.empty) 1 16 Tryz.underlying41 SI1.out SI2.out SI3.out SI4.out ?m1ac ?m1ad (.slice (some ⟨g,0,none⟩) 6 6) (6) (sc [(⟨#[109,97,110,104,111,108,101]⟩:ByteArray),nm,b1,b2,b3,b4]) ?m1ae (HM5.out.1.alloc _) (⟨w5.heap.size,0,none⟩) (1) (1) ([.string (tb)]) ?m1ag (rfl) (World.news_of_block (cs:=#[.string (tb)]) (t:=9) (fr:=(0,0)) (heap_alloc_new _ _)) ((by simp [Value.oneCell'])) (h63_s (by decide)) (hby_s (by decide)) (nT HM5.out.2.size (by simp)) ?m1ah
     case m1aa=>exact rfl
     case m1ab=>exact rfl
     case m1ac=>exact rfl
     case m1ad=>decide
     case m1ae=>exact rfl
     case m1ag=>exact rfl
     intro vm1 wm1 hown2 hgrow2 hnil2 hat2
     have HM6:=LH (HM5.out.app hown2 hgrow2)
     clear hown2 hgrow2 hnil2 hat2)
   |(go_at_call 121
     obtain ⟨g6,c6',hu6,z1,z2,z3,z4⟩:=zK5 HM6.out (by rfl)
     subst hu6
     refine (SW.out ([(⟨#[109,97,110,104,111,108,101]⟩:ByteArray),nm,b1,b2,b3,b4]++[tb]) g6 c6' _ (by simp) HSZ.out z1).mono ?_
     rintro e w7 ⟨rfl,rfl⟩
     have HB7:=LH z4
     clear z1 z2 z3 z4))
  go_ret
  exact ⟨by rw [HEQ.out];rfl,HB7.out⟩
 ·have hkey:=k_tank (x:=⟨nm,2,ax,ay,iv,gd,T,pt,rs⟩) rfl
  have S5:=LH fun w'=>rnum rs n5 w'
  obtain ⟨br,hbr⟩:∃b,nBA rs=b:=⟨_,rfl⟩
  have hlr0:br.size≤20:=by rw [←hbr];exact nT (zD6 n5) (by omega)
  rw [hbr] at S5
  obtain ⟨c0,c1,c2',c3,c4,c5,c6,c7,c8⟩:=blk9 HX2.out
  have d0:=HL2.out.cell 0
  have hfz:=HL2.out.frozen
  have hgl:=HL2.out.lt
  simp only [List.map_cons,List.map_nil,List.getElem?_toArray,List.getElem?_cons_zero] at d0
  go_upto_region 7 with fail
  have HX3:=LH (HX2.out.far (p:=⟨g,0,none⟩) (by have:=HGX.out;show w.heap.size≠g;omega) (.string ⟨#[116,97,110,107]⟩))
  have HM3:Hid (RMem w (w2.setCell ⟨g,0,none⟩ (.string ⟨#[116,97,110,107]⟩)) (.slice (some ⟨g,0,none⟩) 6 6) 6 [(⟨#[116,97,110,107]⟩:ByteArray),nm,b1,b2,b3,b4]):=HM2.out.set (k:=0) (x:=⟨#[116,97,110,107]⟩)
  clear HX2 HM2 HL2 c0 c1 c2' c3 c4 c5 c6 c7 c8 d0 hfz hgl
  generalize w2.setCell ⟨g,0,none⟩ (.string ⟨#[116,97,110,107]⟩)=w3 at HX3 HM3⊢
  cases pt with
  |true=>
   have hlr:br.size≤20:=hlr0
   obtain ⟨t1,t2⟩:=htab (by decide)
   obtain ⟨bq,off,rfl,hta⟩:=tab_at HT.out t1.1
   have HTS:Hid ((tBA T).size≤2500):=t2
   have ST':Hid (∀w',Below w.heap.size w w'→Calls Tryz.prog 127 #[.slice (some ⟨bq,off,none⟩) T.length cc] w' fun e w''=>e= .returned (.string (tBA T))∧Below w'.heap.size w' w''):=fun w' hb=>zK4 bq off T.length cc (kX T) (kY T) w' t1 (hta.below hb hta.1)
   have HEQ:Hid (ndT ⟨nm,2,ax,ay,iv,gd,T,true,rs⟩=jn ([(⟨#[116,97,110,107]⟩:ByteArray),nm,b1,b2,b3,b4,br]++[tBA T])):=by
        refine HND.out.trans ?_
        unfold ndB
        rw [hkey,←hb1,←hb2,←hb3,←hb4,←hbr]
        simp
   have HSZ:Hid (∀b,b∈([(⟨#[116,97,110,107]⟩:ByteArray),nm,b1,b2,b3,b4,br]++[tBA T])→b.size≤3000):=by
        intro b hb
        have h9:=HTS.out
        simp only [List.cons_append,List.nil_append,List.mem_cons,List.not_mem_nil,or_false] at hb
        rcases hb with rfl |rfl |rfl |rfl |rfl |rfl |rfl |rfl
        ·decide
        ·exact nT hnms (by omega)
        ·exact nT hl1 (by omega)
        ·exact nT hl2 (by omega)
        ·exact nT hl3 (by omega)
        ·exact nT hl4 (by omega)
        ·exact nT hlr (by omega)
        ·exact nT h9 (by omega)
   obtain ⟨c0,c1,c2',c3,c4,c5,c6,c7,c8⟩:=blk9 HX3.out
   clear hta t1 t2 htab hv n1 n2 n3 n4 n5 hb1 hb2 hb3 hb4
   generalize tBA T=tb at ST' HEQ HSZ
   go_wp2_with (first
        |(go_at_call 126
          with_reducible refine (S5.out _).mono ?_
          rintro e wn ⟨rfl,rfl⟩)
        |(at_builtin;refine wpList_append_own_at _ ?q1aa (.tmp 39) (.tmp 41) 41 ?q1ab (w.heap.size) 9 SI0 (.string ByteArray.empty) 1 16 Tryz.underlying41 SI1.out SI2.out SI3.out SI4.out ?q1ac ?q1ad (.slice (some ⟨g,0,none⟩) 6 6) (6) (sc [(⟨#[116,97,110,107]⟩:ByteArray),nm,b1,b2,b3,b4]) ?q1ae (HM3.out.1.alloc _) (⟨w3.heap.size,0,none⟩) (1) (1) ([.string (br)]) ?q1ag (rfl) (World.news_of_block (cs:=#[.string (br)]) (t:=9) (fr:=(0,0)) (heap_alloc_new _ _)) ((by simp [Value.oneCell'])) (h63_s (by decide)) (hby_s (by decide)) (nT HM3.out.2.size (by simp)) ?q1ah
          case q1aa=>exact rfl
          case q1ab=>exact rfl
          case q1ac=>exact rfl
          case q1ad=>decide
          case q1ae=>exact rfl
          case q1ag=>exact rfl
          intro vq1 wq1 hown2 hgrow2 hnil2 hat2
          have HM4:=LH (HM3.out.app hown2 hgrow2)
          have HX4:=LH (blk_app HX3.out HM3.out (by decide) hgrow2)
          obtain ⟨c0,c1,c2',c3,c4,c5,c6,c7,c8⟩:=blk9 HX4.out
          obtain ⟨A8,cap8,h8⟩:=HM4.out.form
          subst h8
          clear hown2 hgrow2 hnil2 hat2)
        |(go_at_call 127
          refine (ST'.out _ ?_).mono ?_
          focus (exact HM4.out.2)
          rintro e w5 ⟨rfl,hb5⟩
          have HM5:=LH (HM4.out.call hb5)
          clear hb5)
        |(at_builtin;refine wpList_append_own_at _ ?m2aa (.tmp 43) (.tmp 47) 41 ?m2ab (w.heap.size) 9 SI0 (.string ByteArray.empty) 1 16 Tryz.underlying41 SI1.out SI2.out SI3.out SI4.out ?m2ac ?m2ad (.slice A8 7 cap8) (7) (sc [(⟨#[116,97,110,107]⟩:ByteArray),nm,b1,b2,b3,b4,br]) ?m2ae (HM5.out.1.alloc _) (⟨w5.heap.size,0,none⟩) (1) (1) ([.string (tb)]) ?m2ag (rfl) (World.news_of_block (cs:=#[.string (tb)]) (t:=9) (fr:=(0,0)) (heap_alloc_new _ _)) ((by simp [Value.oneCell'])) (h63_s (by decide)) (hby_s (by decide)) (nT HM5.out.2.size (by simp)) ?m2ah
          case m2aa=>exact rfl
          case m2ab=>exact rfl
          case m2ac=>exact rfl
          case m2ad=>decide
          case m2ae=>exact rfl
          case m2ag=>exact rfl
          intro vm2 wm2 hown2 hgrow2 hnil2 hat2
          have HM6:=LH (HM5.out.app hown2 hgrow2)
          clear hown2 hgrow2 hnil2 hat2)
        |(go_at_call 121
          obtain ⟨g6,c6',hu6,z1,z2,z3,z4⟩:=zK5 HM6.out (by rfl)
          subst hu6
          refine (SW.out ([(⟨#[116,97,110,107]⟩:ByteArray),nm,b1,b2,b3,b4,br]++[tb]) g6 c6' _ (by simp) HSZ.out z1).mono ?_
          rintro e w7 ⟨rfl,rfl⟩
          have HB7:=LH z4
          clear z1 z2 z3 z4))
   go_ret
   exact ⟨by rw [HEQ.out];rfl,HB7.out⟩
  |false=>
   have hlr:(⟨#[45]⟩:ByteArray).size≤20:=by decide
   obtain ⟨t1,t2⟩:=htab (by decide)
   obtain ⟨bq,off,rfl,hta⟩:=tab_at HT.out t1.1
   have HTS:Hid ((tBA T).size≤2500):=t2
   have ST':Hid (∀w',Below w.heap.size w w'→Calls Tryz.prog 127 #[.slice (some ⟨bq,off,none⟩) T.length cc] w' fun e w''=>e= .returned (.string (tBA T))∧Below w'.heap.size w' w''):=fun w' hb=>zK4 bq off T.length cc (kX T) (kY T) w' t1 (hta.below hb hta.1)
   have HEQ:Hid (ndT ⟨nm,2,ax,ay,iv,gd,T,false,rs⟩=jn ([(⟨#[116,97,110,107]⟩:ByteArray),nm,b1,b2,b3,b4,⟨#[45]⟩]++[tBA T])):=by
        refine HND.out.trans ?_
        unfold ndB
        rw [hkey,←hb1,←hb2,←hb3,←hb4]
        simp
   have HSZ:Hid (∀b,b∈([(⟨#[116,97,110,107]⟩:ByteArray),nm,b1,b2,b3,b4,⟨#[45]⟩]++[tBA T])→b.size≤3000):=by
        intro b hb
        have h9:=HTS.out
        simp only [List.cons_append,List.nil_append,List.mem_cons,List.not_mem_nil,or_false] at hb
        rcases hb with rfl |rfl |rfl |rfl |rfl |rfl |rfl |rfl
        ·decide
        ·exact nT hnms (by omega)
        ·exact nT hl1 (by omega)
        ·exact nT hl2 (by omega)
        ·exact nT hl3 (by omega)
        ·exact nT hl4 (by omega)
        ·exact nT hlr (by omega)
        ·exact nT h9 (by omega)
   obtain ⟨c0,c1,c2',c3,c4,c5,c6,c7,c8⟩:=blk9 HX3.out
   clear hta t1 t2 htab hv n1 n2 n3 n4 n5 hb1 hb2 hb3 hb4
   generalize tBA T=tb at ST' HEQ HSZ
   go_wp2_with (first
        |(at_builtin;refine wpList_append_own_at _ ?q2aa (.tmp 39) (.tmp 41) 41 ?q2ab (w.heap.size) 9 SI0 (.string ByteArray.empty) 1 16 Tryz.underlying41 SI1.out SI2.out SI3.out SI4.out ?q2ac ?q2ad (.slice (some ⟨g,0,none⟩) 6 6) (6) (sc [(⟨#[116,97,110,107]⟩:ByteArray),nm,b1,b2,b3,b4]) ?q2ae (HM3.out.1.alloc _) (⟨w3.heap.size,0,none⟩) (1) (1) ([.string (⟨#[45]⟩)]) ?q2ag (rfl) (World.news_of_block (cs:=#[.string (⟨#[45]⟩)]) (t:=9) (fr:=(0,0)) (heap_alloc_new _ _)) ((by simp [Value.oneCell'])) (h63_s (by decide)) (hby_s (by decide)) (nT HM3.out.2.size (by simp)) ?q2ah
          case q2aa=>exact rfl
          case q2ab=>exact rfl
          case q2ac=>exact rfl
          case q2ad=>decide
          case q2ae=>exact rfl
          case q2ag=>exact rfl
          intro vq2 wq2 hown2 hgrow2 hnil2 hat2
          have HM4:=LH (HM3.out.app hown2 hgrow2)
          have HX4:=LH (blk_app HX3.out HM3.out (by decide) hgrow2)
          obtain ⟨c0,c1,c2',c3,c4,c5,c6,c7,c8⟩:=blk9 HX4.out
          obtain ⟨A8,cap8,h8⟩:=HM4.out.form
          subst h8
          clear hown2 hgrow2 hnil2 hat2)
        |(go_at_call 127
          refine (ST'.out _ ?_).mono ?_
          focus (exact HM4.out.2)
          rintro e w5 ⟨rfl,hb5⟩
          have HM5:=LH (HM4.out.call hb5)
          clear hb5)
        |(at_builtin;refine wpList_append_own_at _ ?m3aa (.tmp 43) (.tmp 47) 41 ?m3ab (w.heap.size) 9 SI0 (.string ByteArray.empty) 1 16 Tryz.underlying41 SI1.out SI2.out SI3.out SI4.out ?m3ac ?m3ad (.slice A8 7 cap8) (7) (sc [(⟨#[116,97,110,107]⟩:ByteArray),nm,b1,b2,b3,b4,⟨#[45]⟩]) ?m3ae (HM5.out.1.alloc _) (⟨w5.heap.size,0,none⟩) (1) (1) ([.string (tb)]) ?m3ag (rfl) (World.news_of_block (cs:=#[.string (tb)]) (t:=9) (fr:=(0,0)) (heap_alloc_new _ _)) ((by simp [Value.oneCell'])) (h63_s (by decide)) (hby_s (by decide)) (nT HM5.out.2.size (by simp)) ?m3ah
          case m3aa=>exact rfl
          case m3ab=>exact rfl
          case m3ac=>exact rfl
          case m3ad=>decide
          case m3ae=>exact rfl
          case m3ag=>exact rfl
          intro vm3 wm3 hown2 hgrow2 hnil2 hat2
          have HM6:=LH (HM5.out.app hown2 hgrow2)
          clear hown2 hgrow2 hnil2 hat2)
        |(go_at_call 121
          obtain ⟨g6,c6',hu6,z1,z2,z3,z4⟩:=zK5 HM6.out (by rfl)
          subst hu6
          refine (SW.out ([(⟨#[116,97,110,107]⟩:ByteArray),nm,b1,b2,b3,b4,⟨#[45]⟩]++[tb]) g6 c6' _ (by simp) HSZ.out z1).mono ?_
          rintro e w7 ⟨rfl,rfl⟩
          have HB7:=LH z4
          clear z1 z2 z3 z4))
   go_ret
   exact ⟨by rw [HEQ.out];rfl,HB7.out⟩
 ·have hkey:=k_out (x:=⟨nm,3,ax,ay,iv,gd,T,pt,rs⟩) rfl
  obtain ⟨c0,c1,c2',c3,c4,c5,c6,c7,c8⟩:=blk9 HX2.out
  have d0:=HL2.out.cell 0
  have hfz:=HL2.out.frozen
  have hgl:=HL2.out.lt
  simp only [List.map_cons,List.map_nil,List.getElem?_toArray,List.getElem?_cons_zero] at d0
  have HEQ:Hid (ndT ⟨nm,3,ax,ay,iv,gd,T,pt,rs⟩=jn [(⟨#[111,117,116,102,97,108,108]⟩:ByteArray),nm,b1,b2,b3,b4]):=by
   refine HND.out.trans ?_
   unfold ndB
   rw [hkey,←hb1,←hb2,←hb3,←hb4]
   simp
  have HSZ:Hid (∀b,b∈[(⟨#[111,117,116,102,97,108,108]⟩:ByteArray),nm,b1,b2,b3,b4]→b.size≤3000):=by
   intro b hb
   simp only [List.mem_cons,List.not_mem_nil,or_false] at hb
   rcases hb with rfl |rfl |rfl |rfl |rfl |rfl
   ·decide
   ·exact nT hnms (by omega)
   ·exact nT hl1 (by omega)
   ·exact nT hl2 (by omega)
   ·exact nT hl3 (by omega)
   ·exact nT hl4 (by omega)
  go_upto_region 4 with fail
  have HM3:Hid (RMem w (w2.setCell ⟨g,0,none⟩ (.string ⟨#[111,117,116,102,97,108,108]⟩)) (.slice (some ⟨g,0,none⟩) 6 6) 6 [(⟨#[111,117,116,102,97,108,108]⟩:ByteArray),nm,b1,b2,b3,b4]):=HM2.out.set (k:=0) (x:=⟨#[111,117,116,102,97,108,108]⟩)
  clear HX2 HM2 HL2 c0 c1 c2' c3 c4 c5 c6 c7 c8 d0 hfz hgl
  generalize w2.setCell ⟨g,0,none⟩ (.string ⟨#[111,117,116,102,97,108,108]⟩)=w3 at HM3⊢
  have z1:StrAt w3 g 0 6 (fun k=>([(⟨#[111,117,116,102,97,108,108]⟩:ByteArray),nm,b1,b2,b3,b4]:List ByteArray).getD k ByteArray.empty):=by
   have h9:=zF6 (L:=[(⟨#[111,117,116,102,97,108,108]⟩:ByteArray),nm,b1,b2,b3,b4]) HM3.out.1
   exact h9
  have SW1:=LH (SW.out [(⟨#[111,117,116,102,97,108,108]⟩:ByteArray),nm,b1,b2,b3,b4] g 6 w3 (by simp) HSZ.out z1)
  clear z1
  go_wp2_with (first
   |(go_at_call 121
     refine SW1.out.mono ?_
     rintro e w7 ⟨rfl,rfl⟩))
  go_ret
  exact ⟨by rw [HEQ.out];rfl,HM3.out.2⟩
def LinkLineSays:Prop:=∀(x:Lkr) (A:Option Addr) (c:Nat),vLk x→∀w:World,TabIn w A x.T.length (kX x.T) (kY x.T)→Calls Tryz.prog 88 #[.agg (lcs x A c).toArray] w fun e w'=>e= .returned (.string ⟨(lkT x).toArray⟩)∧Below w.heap.size w w'
theorem text_step (T l:List UInt8):((⟨T.toArray⟩:ByteArray)++(⟨l.toArray⟩:ByteArray))++(⟨#[10]⟩:ByteArray)=⟨(T++(l++[10])).toArray⟩:=by
 apply ByteArray.ext
 apply Array.ext'
 rw [ByteArray.data_append,ByteArray.data_append]
 simp
set_option maxRecDepth 100000 in
set_option maxHeartbeats 8000000 in
theorem rtextN (hlk:LinkLineSays) (NA LA:Option Addr) (n nc m lc:Nat) (D:Nds) (K:Lks) (hP:netP D n K m) (h40:n≤40) (h60:m≤60) (w:World) (hD:NdIn w NA n D) (hK:LkIn w LA m K):
 Calls Tryz.prog 48 #[.agg #[.slice NA n nc,.slice LA m lc]] w fun e w'=>e= .returned (.string ⟨(netT (recN D n) (recL K m)).toArray⟩)∧Below w.heap.size w w':=by
 have hv:=netV_of hP
 have HVN:Hid (∀i,i<n→vNd (zE6 D i)):=fun i hi=>netV_nd hv _ (List.mem_map.2 ⟨i,List.mem_range.2 hi,rfl⟩)
 have HVL:Hid (∀i,i<m→vLk (zF1 K i)):=fun i hi=>netV_lk hv _ (List.mem_map.2 ⟨i,List.mem_range.2 hi,rfl⟩)
 have HLN:Hid (∀i j,i≤n→j≤m→(netT (recN D i) (recL K j)).length≤250000):=fun i j hi hj=>netT_part hP h40 h60 hi hj
 have HLK:=LH hlk
 have HD:=LH hD
 have HK:=LH hK
 have H40:=LH h40
 have H60:=LH h60
 have HAL:Hid (Below w.heap.size w (w.alloc (Obj.cells #[.slice NA n nc,.slice LA m lc] 25))):=(bR _ w).alloc (nl _) _
 have HB0:Hid (Blk (w.alloc (Obj.cells #[.slice NA n nc,.slice LA m lc] 25)) w.heap.size 25 #[.slice NA n nc,.slice LA m lc]):=Blk.new _ _ _
 clear hD hK hP h40 h60 hv hlk
 go_enter Tryz.func48,Tryz.ntmps48
 go_wp2_with fail
 generalize w.alloc (Obj.cells #[.slice NA n nc,.slice LA m lc] 25)=w1 at HAL HB0⊢
 go_loopw [3,4] (fun u v wr=>∃(i:Nat) (a:ByteArray),u= .string a∧v= .int .i64 i∧Hid (i≤n)∧Hid (a=⟨(netT (recN D i) (recL K 0)).toArray⟩)∧Hid (Below w.heap.size w wr)∧Hid (Blk wr w.heap.size 25 #[.slice NA n nc,.slice LA m lc])) (fun _ v _=>n - (RowKit.intOf v).toNat)
 case atStart=>exact ⟨0,⟨#[]⟩,rfl,rfl,Nat.zero_le _,rfl,HAL.out,HB0.out⟩
 case round=>
  clear HAL HB0
  obtain ⟨i,a,rfl,rfl,Hi,HA,HW,HX⟩:=hrel
  obtain ⟨y0,y1⟩:=blk2 HX.out
  by_cases hlt:i<n
  case neg=>
   have T0:decide ((i:Int)<(n:Int))=false:=by simp<;> omega
   have T0':decide (i<n)=false:=dF hlt
   have e:i=n:=by have:=Hi.out;omega
   have HA1:Hid (a=⟨(netT (recN D n) (recL K 0)).toArray⟩):=by have h9:=HA.out;rw [e] at h9;exact h9
   clear hlt e HA Hi HVN HD
   go_wp2_with fail
   go_loopw [3,5] (fun u v wq=>∃(j:Nat) (a:ByteArray),u= .string a∧v= .int .i64 j∧Hid (j≤m)∧Hid (a=⟨(netT (recN D n) (recL K j)).toArray⟩)∧Hid (Below w.heap.size w wq)∧Hid (Blk wq w.heap.size 25 #[.slice NA n nc,.slice LA m lc])) (fun _ v _=>m - (RowKit.intOf v).toNat)
   case atStart=>exact ⟨0,a,rfl,rfl,Nat.zero_le _,HA1.out,HW.out,HX.out⟩
   case round=>
        rename World=>wq
        clear HA1 HW HX y0 y1
        obtain ⟨j,a,rfl,rfl,Hj,HA,HW,HX⟩:=hrel
        obtain ⟨y0,y1⟩:=blk2 HX.out
        by_cases hlt:j<m
        case neg=>
         have T1:decide ((j:Int)<(m:Int))=false:=by simp<;> omega
         have T1':decide (j<m)=false:=dF hlt
         have e:j=m:=by have:=Hj.out;omega
         have HA1:Hid (a=⟨(netT (recN D n) (recL K m)).toArray⟩):=by have h9:=HA.out;rw [e] at h9;exact h9
         clear hlt e HA Hj
         go_wp2_with fail
         go_ret
         exact ⟨by rw [←HA1.out];rfl,HW.out⟩
        have T1:decide ((j:Int)<(m:Int))=true:=by simp<;> omega
        have T1':decide (j<m)=true:=dT hlt
        obtain ⟨j',hj'⟩:∃z,z=j+1:=⟨_,rfl⟩
        have x0:IntKind.i64.wrap ((j:Int)+1)=(j':Int):=by have:=H60.out;rw [IntKind.wrap_i64];omega
        have k0:(0:Int)≤(j:Int):=by omega
        have k1:(j:Int)<(m:Int):=by omega
        have HMS:Hid (m - (RowKit.intOf (Value.int .i64 (j':Int))).toNat<m - (RowKit.intOf (Value.int .i64 (j:Int))).toNat):=by show _<_;simp [RowKit.intOf];omega
        have HI':Hid (j'≤m):=by show _≤_;omega
        have hln:=HLN.out n j (nl _) (by omega)
        have hvl:=HVL.out j hlt
        have hxl:=hvl.len
        obtain ⟨bk,ok,rfl,hbk,hC,htab⟩:=(HK.out.below (nl _) HW.out).at hlt
        have c0:=hC 0 _ rfl
        have c1:=hC 1 _ rfl
        have c2:=hC 2 _ rfl
        have c3:=hC 3 _ rfl
        have c4:=hC 4 _ rfl
        have c5:=hC 5 _ rfl
        have c6:=hC 6 _ rfl
        have c7:=hC 7 _ rfl
        have c8:=hC 8 _ rfl
        have c9:=hC 9 _ rfl
        have c10:=hC 10 _ rfl
        simp only [Nat.add_zero] at c0
        have SN0:=HLK.out (zF1 K j) (K.CA j) (K.CC j) hvl wq (tab_edl htab)
        rw [lcs_of] at SN0
        have SN:=LH SN0
        have HSTEP:Hid ((a++(⟨(lkT (zF1 K j)).toArray⟩:ByteArray))++(⟨#[10]⟩:ByteArray)=⟨(netT (recN D n) (recL K j')).toArray⟩):=by
         show _=_
         rw [HA.out,text_step,hj',recL_succ,netT_lk]
        have has:a.size≤250000:=by rw [HA.out];exact hln
        obtain ⟨lt,hlt2⟩:∃lt:ByteArray,⟨(lkT (zF1 K j)).toArray⟩=lt:=⟨_,rfl⟩
        have hls:lt.size≤2330:=by rw [←hlt2];exact hxl
        rw [hlt2] at SN HSTEP
        obtain ⟨z,hz⟩:∃z,a++lt=z:=⟨_,rfl⟩
        obtain ⟨z2,hz2⟩:∃z2,z++(⟨#[10]⟩:ByteArray)=z2:=⟨_,rfl⟩
        have hzs:z.size=a.size+lt.size:=by rw [←hz,ByteArray.size_append]
        rw [hz,hz2] at HSTEP
        have v1:((a.size:Nat):Int)≤8388608:=by omega
        have v2:((z.size:Nat):Int)≤8388608:=by omega
        have v3:¬9223372036854775807<a.size+lt.size:=by omega
        have v4:¬9223372036854775807<z.size+1:=by omega
        unfold lkA at SN
        clear hj' hC htab hlt hvl hxl SN0 hlt2 hln has hls hzs hbk
        go_wp2_with (first
         |(go_at_call 88
           with_reducible refine SN.out.mono ?_
           rintro e w5 ⟨rfl,hb5⟩
           have HW5:=LH (zA1 HW.out hb5)
           have HX5:=LH (HX.out.call hb5)
           clear hb5))
        go_roundw
        case rel=>exact ⟨j',z2,rfl,rfl,HI',HSTEP,HW5,HX5⟩
        case measure=>exact HMS.out
  have T0:decide ((i:Int)<(n:Int))=true:=by simp<;> omega
  have T0':decide (i<n)=true:=dT hlt
  obtain ⟨i',hi'⟩:∃z,z=i+1:=⟨_,rfl⟩
  have x0:IntKind.i64.wrap ((i:Int)+1)=(i':Int):=by have:=H40.out;rw [IntKind.wrap_i64];omega
  have k0:(0:Int)≤(i:Int):=by omega
  have k1:(i:Int)<(n:Int):=by omega
  have HMS:Hid (n - (RowKit.intOf (Value.int .i64 (i':Int))).toNat<n - (RowKit.intOf (Value.int .i64 (i:Int))).toNat):=by show _<_;simp [RowKit.intOf];omega
  have HI':Hid (i'≤n):=by show _≤_;omega
  have hln:=HLN.out i 0 (by omega) (Nat.zero_le _)
  have hvl:=HVN.out i hlt
  have hxl:=hvl.len
  obtain ⟨bk,ok,rfl,hbk,hC,htab⟩:=(HD.out.below (nl _) HW.out).at hlt
  have c0:=hC 0 _ rfl
  have c1:=hC 1 _ rfl
  have c2:=hC 2 _ rfl
  have c3:=hC 3 _ rfl
  have c4:=hC 4 _ rfl
  have c5:=hC 5 _ rfl
  have c6:=hC 6 _ rfl
  have c7:=hC 7 _ rfl
  have c8:=hC 8 _ rfl
  simp only [Nat.add_zero] at c0
  have SN0:=rnodeLine (zE6 D i) (D.SA i) (D.SC i) hvl wr (tab_edl htab)
  rw [ncs_of] at SN0
  have SN:=LH SN0
  have HSTEP:Hid ((a++(⟨(ndT (zE6 D i)).toArray⟩:ByteArray))++(⟨#[10]⟩:ByteArray)=⟨(netT (recN D i') (recL K 0)).toArray⟩):=by
   show _=_
   rw [HA.out,text_step,hi',recN_succ]
   exact congrArg (fun l:List UInt8=>(⟨l.toArray⟩:ByteArray)) (netT_nd _ _).symm
  have has:a.size≤250000:=by rw [HA.out];exact hln
  obtain ⟨lt,hlt2⟩:∃lt:ByteArray,⟨(ndT (zE6 D i)).toArray⟩=lt:=⟨_,rfl⟩
  have hls:lt.size≤2640:=by rw [←hlt2];exact hxl
  rw [hlt2] at SN HSTEP
  obtain ⟨z,hz⟩:∃z,a++lt=z:=⟨_,rfl⟩
  obtain ⟨z2,hz2⟩:∃z2,z++(⟨#[10]⟩:ByteArray)=z2:=⟨_,rfl⟩
  have hzs:z.size=a.size+lt.size:=by rw [←hz,ByteArray.size_append]
  rw [hz,hz2] at HSTEP
  have v1:((a.size:Nat):Int)≤8388608:=by omega
  have v2:((z.size:Nat):Int)≤8388608:=by omega
  have v3:¬9223372036854775807<a.size+lt.size:=by omega
  have v4:¬9223372036854775807<z.size+1:=by omega
  unfold ndA at SN
  clear hi' hC htab hlt hvl hxl SN0 hlt2 hln has hls hzs hbk
  go_wp2_with (first
   |(go_at_call 87
     with_reducible refine SN.out.mono ?_
     rintro e w5 ⟨rfl,hb5⟩
     have HW5:=LH (zA1 HW.out hb5)
     have HX5:=LH (HX.out.call hb5)
     clear hb5))
  go_roundw
  case rel=>exact ⟨i',z2,rfl,rfl,HI',HSTEP,HW5,HX5⟩
  case measure=>exact HMS.out
theorem RMem.lit (w:World) (x:ByteArray):RMem w (w.alloc (.cells #[.string x] 9)) (.slice (some ⟨w.heap.size,0,none⟩) 1 1) 1 [x]:=
 ⟨World.ownsRow_lit w #[.string x] 1 (nl _) (by unfold maxLen;omega) rfl,(bR _ w).alloc (nl _) _⟩
theorem RMem.more {w wr w':World} {u v:Value} {N m:Nat} {R Q:List ByteArray} (h:RMem w wr u N R) (hown:w'.ownsRow w.heap.size 9 1 v (N+m) (sc R++sc Q)) (hg:wr.grownBy w' u.ownBlock):RMem w w' v (N+m) (R++Q):=
 ⟨by rw [sc_append];exact hown,zJ8 h.1 h.2 hg⟩
theorem RMem.al {w wr:World} {u:Value} {N:Nat} {R:List ByteArray} (h:RMem w wr u N R) (o:Obj):RMem w (wr.alloc o) u N R:=⟨h.1.alloc _,h.2.alloc h.2.size _⟩
theorem sc_small {x:Lkr} (h:vLk x):x.sc.size≤20:=by
 rcases h.2.2.2.2.2.2 with ⟨_,_,h3,_⟩|⟨_,_,_,h3,_⟩|⟨_,_,_,h3,_⟩|⟨_,_,_,h3,_⟩
 ·exact (zF5 h3).2.2.2
 all_goals (rw [sc_nil h3];decide)
theorem zL6 {w w':World} {g:Nat} {t:TypeId} {cs:Array Value} (h:Blk w g t cs) (hb:Below w.heap.size w w'):∀j u,cs.toList[j]?=some u→w'.cell? ((⟨g,0,none⟩:Addr).add j)=some u:=World.news_of_block (h.call hb)
set_option maxRecDepth 100000 in
set_option maxHeartbeats 8000000 in
theorem rlinkLine:LinkLineSays:=by
 intro x A cc hv w ht
 obtain ⟨n1,n2,n3,n4,n5⟩:=hv.num
 have hnm:=hv.1
 have hfr:=hv.2.1
 have htn:=hv.2.2.1
 have htab:=hv.tab
 have hform:=hv.form.kd
 have hsx:=sc_small hv
 have HLK:Hid (lkT x=jn (lkB x)):=rfl
 unfold lcs
 obtain ⟨nm,fr,tn,kd,ln,up,dn,sx,wd,hh,T⟩:=x
 simp only at*
 have S1:=LH fun w'=>rnum ln n1 w'
 have S2:=LH fun w'=>rnum up n2 w'
 have S3:=LH fun w'=>rnum dn n3 w'
 have S4:=LH fun w'=>rnum wd n4 w'
 have S5:=LH fun w'=>rnum hh n5 w'
 have HT:=LH ht
 have HX2:Hid (Blk ((w.alloc (.cells #[.string nm,.string fr,.string tn,.int .i64 kd,.int .i64 ln,.int .i64 up,.int .i64 dn,.string sx,.int .i64 wd,.int .i64 hh,.slice A T.length cc] 64)).alloc (.cells #[.string nm,.string fr,.string tn] 9)) w.heap.size 64 #[.string nm,.string fr,.string tn,.int .i64 kd,.int .i64 ln,.int .i64 up,.int .i64 dn,.string sx,.int .i64 wd,.int .i64 hh,.slice A T.length cc]):=(Blk.new _ _ _).alloc _
 have HE2:Hid (Blk ((w.alloc (.cells #[.string nm,.string fr,.string tn,.int .i64 kd,.int .i64 ln,.int .i64 up,.int .i64 dn,.string sx,.int .i64 wd,.int .i64 hh,.slice A T.length cc] 64)).alloc (.cells #[.string nm,.string fr,.string tn] 9)) (w.heap.size+1) 9 #[.string nm,.string fr,.string tn]):=by
  have h:=Blk.new (w.alloc (.cells #[.string nm,.string fr,.string tn,.int .i64 kd,.int .i64 ln,.int .i64 up,.int .i64 dn,.string sx,.int .i64 wd,.int .i64 hh,.slice A T.length cc] 64)) 9 #[.string nm,.string fr,.string tn]
  simp only [World.size_alloc] at h
  exact h
 have HB2:Hid (Below w.heap.size w ((w.alloc (.cells #[.string nm,.string fr,.string tn,.int .i64 kd,.int .i64 ln,.int .i64 up,.int .i64 dn,.string sx,.int .i64 wd,.int .i64 hh,.slice A T.length cc] 64)).alloc (.cells #[.string nm,.string fr,.string tn] 9))):=((bR _ w).alloc (nl _) _).alloc (by simp) _
 clear ht
 obtain ⟨b1,hb1⟩:∃b,nBA ln=b:=⟨_,rfl⟩
 obtain ⟨b2,hb2⟩:∃b,nBA up=b:=⟨_,rfl⟩
 obtain ⟨b3,hb3⟩:∃b,nBA dn=b:=⟨_,rfl⟩
 obtain ⟨b4,hb4⟩:∃b,nBA wd=b:=⟨_,rfl⟩
 obtain ⟨b5,hb5⟩:∃b,nBA hh=b:=⟨_,rfl⟩
 rw [hb1] at S1
 rw [hb2] at S2
 rw [hb3] at S3
 rw [hb4] at S4
 rw [hb5] at S5
 go_enter Tryz.func88,Tryz.ntmps88
 go_upto_region 2 with fail
 generalize (w.alloc (.cells #[.string nm,.string fr,.string tn,.int .i64 kd,.int .i64 ln,.int .i64 up,.int .i64 dn,.string sx,.int .i64 wd,.int .i64 hh,.slice A T.length cc] 64)).alloc (.cells #[.string nm,.string fr,.string tn] 9)=w2 at HX2 HE2 HB2⊢
 generalize w.heap.size+1=g at HE2⊢
 obtain ⟨SI0,si0,sz0,sz1,sz2⟩:=zA8 infoS
 have SI1:=LH si0
 have SI2:=LH sz0
 have SI3:=LH sz1
 have SI4:=LH sz2
 clear si0 sz0 sz1 sz2
 have l1:nm.size≤20:=(zF5 hnm).2.2.2
 have l2:fr.size≤20:=(zF5 hfr).2.2.2
 have l3:tn.size≤20:=(zF5 htn).2.2.2
 have m1:b1.size≤20:=by rw [←hb1];exact nT (zD6 n1) (by omega)
 have m2:b2.size≤20:=by rw [←hb2];exact nT (zD6 n2) (by omega)
 have m3:b3.size≤20:=by rw [←hb3];exact nT (zD6 n3) (by omega)
 have m4:b4.size≤20:=by rw [←hb4];exact nT (zD6 n4) (by omega)
 have m5:b5.size≤20:=by rw [←hb5];exact nT (zD6 n5) (by omega)
 have SW:Hid (∀(R:List ByteArray) (g' c':Nat) (w':World),R.length≤9→(∀b,b∈R→b.size≤3000)→StrAt w' g' 0 R.length (fun k=>R.getD k ByteArray.empty)→Calls Tryz.prog 121 #[.slice (some ⟨g',0,none⟩) R.length c'] w' fun e w''=>e= .returned (.string ⟨(jn R).toArray⟩)∧w'=w''):=fun R g' c' w' hR hs hst=>by
  have h9:=rwords g' 0 R.length c' (fun k=>R.getD k ByteArray.empty) hR w' hst (fun k hk=>by
   refine nT (hs _ ?_) (by omega)
   rw [List.getD_eq_getElem?_getD,List.getElem?_eq_getElem hk]
   exact List.getElem_mem hk)
  have e:wl (fun k=>R.getD k ByteArray.empty) R.length=R:=by
   apply List.ext_getElem (by simp [wl])
   intro k h1 h2
   simp [wl,List.getD,h2]
  rw [e] at h9
  exact h9
 rcases hform with ⟨rfl,_⟩|⟨rfl,_⟩|⟨rfl,_⟩|⟨rfl,_⟩
 ·have HEQ:Hid (lkT ⟨nm,fr,tn,1,ln,up,dn,sx,wd,hh,T⟩=jn [(⟨#[112,105,112,101]⟩:ByteArray),nm,fr,tn,b1,b2,b3,sx]):=by
   refine HLK.out.trans ?_
   rw [←hb1,←hb2,←hb3]
   first |rfl |simp [lkB,lkK,kPipe,zL9,kGate,kPump]
  have HSZ:Hid (∀b,b∈[(⟨#[112,105,112,101]⟩:ByteArray),nm,fr,tn,b1,b2,b3,sx]→b.size≤3000):=by
   intro b hb
   simp only [List.mem_cons,List.not_mem_nil,or_false] at hb
   rcases hb with rfl |rfl |rfl |rfl |rfl |rfl |rfl |rfl
   ·decide
   ·exact nT l1 (by omega)
   ·exact nT l2 (by omega)
   ·exact nT l3 (by omega)
   ·exact nT m1 (by omega)
   ·exact nT m2 (by omega)
   ·exact nT m3 (by omega)
   ·exact nT hsx (by omega)
  have HMD:Hid (RMem w2 (w2.drew.alloc (.cells #[.string ⟨#[112,105,112,101]⟩] 9)) (.slice (some ⟨w2.heap.size,0,none⟩) 1 1) 1 [(⟨#[112,105,112,101]⟩:ByteArray)]):=⟨(RMem.lit w2.drew _).1,(bR _ w2).drew.alloc (nl _) _⟩
  have HND:Hid (∀j u,([.string nm,.string fr,.string tn]:List Value)[j]?=some u→(w2.drew.alloc (.cells #[.string ⟨#[112,105,112,101]⟩] 9)).cell? ((⟨g,0,none⟩:Addr).add j)=some u):=zL6 HE2.out ((bR _ w2).drew.alloc (nl _) _)
  clear htab hv hb1 hb2 hb3 hb4 hb5 n1 n2 n3 n4 n5 hnm hfr htn HLK
  obtain ⟨c0,c1,c2',c3,c4,c5,c6,c7,c8,c9,c10⟩:=zA5 HX2.out
  go_upto_region 4 with fail
  have hs0:w2.cell? ⟨w.heap.size,4,none⟩=some (.int .i64 ln)∧w2.cell? ⟨w.heap.size,5,none⟩=some (.int .i64 up)∧w2.cell? ⟨w.heap.size,6,none⟩=some (.int .i64 dn)∧w2.cell? ⟨w.heap.size,7,none⟩=some (.string sx):=⟨c4,c5,c6,c7⟩
  have hs1:w2.drew.cell? ⟨w.heap.size,4,none⟩=some (.int .i64 ln)∧w2.drew.cell? ⟨w.heap.size,5,none⟩=some (.int .i64 up)∧w2.drew.cell? ⟨w.heap.size,6,none⟩=some (.int .i64 dn)∧w2.drew.cell? ⟨w.heap.size,7,none⟩=some (.string sx):=⟨c4,c5,c6,c7⟩
  have HS:Hid (∀w',Below w2.heap.size w2 w'→w'.cell? ⟨w.heap.size,4,none⟩=some (.int .i64 ln)∧w'.cell? ⟨w.heap.size,5,none⟩=some (.int .i64 up)∧w'.cell? ⟨w.heap.size,6,none⟩=some (.int .i64 dn)∧w'.cell? ⟨w.heap.size,7,none⟩=some (.string sx)):=fun w' hb=>by
   obtain ⟨d0,d1,d2,d3,d4,d5,d6,d7,d8,d9,d10⟩:=zA5 (HX2.out.call hb)
   exact ⟨d4,d5,d6,d7⟩
  clear c0 c1 c2' c3 c4 c5 c6 c7 c8 c9 c10 l1 l2 l3 m1 m2 m3 m4 m5 hsx
  go_region_held3 (fun w'=>w'.cell? ⟨w.heap.size,4,none⟩=some (.int .i64 ln)∧w'.cell? ⟨w.heap.size,5,none⟩=some (.int .i64 up)∧w'.cell? ⟨w.heap.size,6,none⟩=some (.int .i64 dn)∧w'.cell? ⟨w.heap.size,7,none⟩=some (.string sx)) (first |with_reducible exact hs0 |with_reducible exact hs1 |exact HS.out _ hqB |exact HS.out _ hqA |exact HS.out _ hqT |exact HS.out _ hqB.drew |exact HS.out _ hqA.drew |exact HS.out _ hqT.drew |exact HS.out _ bel) (first
   |(fail_if_success (clear hqA)
     refine step_append_lies _ (by rfl) _ _ _ (by rfl) w2.heap.size 9 SI0 (.string ByteArray.empty) 1 16 Tryz.underlying41 SI1.out SI2.out SI3.out SI4.out rfl (by omega) (.slice (some ⟨w2.heap.size,0,none⟩) 1 1) 1 (sc [(⟨#[112,105,112,101]⟩:ByteArray)]) (by rfl) HMD.out.1 ⟨g,0,none⟩ 3 3 [.string nm,.string fr,.string tn] (by rfl) (by rfl) HND.out (by simp [Value.oneCell']) (by omega) (by unfold maxLen;omega) (by omega) HMD.out.2.size (w2.heap.size+1) (by simp) ?_
     intro gA capA wA hownA hgrowA hatA hltA
     have HMA:Hid (RMem w2 wA (.slice (some ⟨gA,0,none⟩) (1+3) capA) (1+3) ([(⟨#[112,105,112,101]⟩:ByteArray)]++[nm,fr,tn])):=HMD.out.more hownA hgrowA
     have hqA:Below w2.heap.size w2 wA:=HMA.out.2
     rw [show (1+3:Nat)=4 from rfl] at HMA⊢
     clear hownA hgrowA hatA hltA)
   |(fail_if_success (fail_if_success (clear hqA))
     refine step_append_lies _ (by rfl) _ _ _ (by rfl) w2.heap.size 9 SI0 (.string ByteArray.empty) 1 16 Tryz.underlying41 SI1.out SI2.out SI3.out SI4.out rfl (by omega) (.slice (some ⟨gA,0,none⟩) 4 capA) 4 (sc [(⟨#[112,105,112,101]⟩:ByteArray),nm,fr,tn]) (by rfl) (HMA.out.1.alloc _) ⟨wA.heap.size,0,none⟩ 4 4 [.string b1,.string b2,.string b3,.string sx] (by rfl) (by rfl) (World.news_of_block (cs:=#[.string b1,.string b2,.string b3,.string sx]) (t:=9) (fr:=(0,0)) (heap_alloc_new wA _)) (by simp [Value.oneCell']) (by omega) (by unfold maxLen;omega) (by omega) (zA9 HMA.out.2.size _) (wA.heap.size+1) (by simp) ?_
     intro gB capB wB hownB hgrowB hatB hltB
     have HMB:Hid (RMem w2 wB (.slice (some ⟨gB,0,none⟩) (4+4) capB) (4+4) ([(⟨#[112,105,112,101]⟩:ByteArray),nm,fr,tn]++[b1,b2,b3,sx])):=(RMem.al HMA.out _).more hownB hgrowB
     have hqB:Below w2.heap.size w2 wB:=HMB.out.2
     rw [show (4+4:Nat)=8 from rfl] at HMB⊢
     clear hownB hgrowB hatB hltB)
   |(go_at_call 126
     with_reducible refine (S1.out _).mono ?_
     rintro e w5 ⟨rfl,rfl⟩)
   |(go_at_call 126
     with_reducible refine (S2.out _).mono ?_
     rintro e w5 ⟨rfl,rfl⟩)
   |(go_at_call 126
     with_reducible refine (S3.out _).mono ?_
     rintro e w5 ⟨rfl,rfl⟩)
   |(go_at_call 121
     refine (SW.out [(⟨#[112,105,112,101]⟩:ByteArray),nm,fr,tn,b1,b2,b3,sx] gB capB _ (by simp) HSZ.out (zF6 HMB.out.1)).mono ?_
     rintro e w7 ⟨rfl,rfl⟩))
  try go_wp2_with fail
  go_ret
  exact ⟨by rw [HEQ.out];rfl,zA1 HB2.out hqB⟩
 ·have HEQ:Hid (lkT ⟨nm,fr,tn,2,ln,up,dn,sx,wd,hh,T⟩=jn [(⟨#[119,101,105,114]⟩:ByteArray),nm,fr,tn,b2,b4]):=by
   refine HLK.out.trans ?_
   rw [←hb2,←hb4]
   first |rfl |simp [lkB,lkK,kPipe,zL9,kGate,kPump]
  have HSZ:Hid (∀b,b∈[(⟨#[119,101,105,114]⟩:ByteArray),nm,fr,tn,b2,b4]→b.size≤3000):=by
   intro b hb
   simp only [List.mem_cons,List.not_mem_nil,or_false] at hb
   rcases hb with rfl |rfl |rfl |rfl |rfl |rfl
   ·decide
   ·exact nT l1 (by omega)
   ·exact nT l2 (by omega)
   ·exact nT l3 (by omega)
   ·exact nT m2 (by omega)
   ·exact nT m4 (by omega)
  have HMD:Hid (RMem w2 (w2.drew.alloc (.cells #[.string ⟨#[119,101,105,114]⟩] 9)) (.slice (some ⟨w2.heap.size,0,none⟩) 1 1) 1 [(⟨#[119,101,105,114]⟩:ByteArray)]):=⟨(RMem.lit w2.drew _).1,(bR _ w2).drew.alloc (nl _) _⟩
  have HND:Hid (∀j u,([.string nm,.string fr,.string tn]:List Value)[j]?=some u→(w2.drew.alloc (.cells #[.string ⟨#[119,101,105,114]⟩] 9)).cell? ((⟨g,0,none⟩:Addr).add j)=some u):=zL6 HE2.out ((bR _ w2).drew.alloc (nl _) _)
  clear htab hv hb1 hb2 hb3 hb4 hb5 n1 n2 n3 n4 n5 hnm hfr htn HLK
  obtain ⟨c0,c1,c2',c3,c4,c5,c6,c7,c8,c9,c10⟩:=zA5 HX2.out
  go_upto_region 6 with fail
  have hs0:w2.cell? ⟨w.heap.size,5,none⟩=some (.int .i64 up)∧w2.cell? ⟨w.heap.size,8,none⟩=some (.int .i64 wd):=⟨c5,c8⟩
  have hs1:w2.drew.cell? ⟨w.heap.size,5,none⟩=some (.int .i64 up)∧w2.drew.cell? ⟨w.heap.size,8,none⟩=some (.int .i64 wd):=⟨c5,c8⟩
  have HS:Hid (∀w',Below w2.heap.size w2 w'→w'.cell? ⟨w.heap.size,5,none⟩=some (.int .i64 up)∧w'.cell? ⟨w.heap.size,8,none⟩=some (.int .i64 wd)):=fun w' hb=>by
   obtain ⟨d0,d1,d2,d3,d4,d5,d6,d7,d8,d9,d10⟩:=zA5 (HX2.out.call hb)
   exact ⟨d5,d8⟩
  clear c0 c1 c2' c3 c4 c5 c6 c7 c8 c9 c10 l1 l2 l3 m1 m2 m3 m4 m5 hsx
  go_region_held3 (fun w'=>w'.cell? ⟨w.heap.size,5,none⟩=some (.int .i64 up)∧w'.cell? ⟨w.heap.size,8,none⟩=some (.int .i64 wd)) (first |with_reducible exact hs0 |with_reducible exact hs1 |exact HS.out _ hqB |exact HS.out _ hqA |exact HS.out _ hqT |exact HS.out _ hqB.drew |exact HS.out _ hqA.drew |exact HS.out _ hqT.drew |exact HS.out _ bel) (first
   |(fail_if_success (clear hqA)
     refine step_append_lies _ (by rfl) _ _ _ (by rfl) w2.heap.size 9 SI0 (.string ByteArray.empty) 1 16 Tryz.underlying41 SI1.out SI2.out SI3.out SI4.out rfl (by omega) (.slice (some ⟨w2.heap.size,0,none⟩) 1 1) 1 (sc [(⟨#[119,101,105,114]⟩:ByteArray)]) (by rfl) HMD.out.1 ⟨g,0,none⟩ 3 3 [.string nm,.string fr,.string tn] (by rfl) (by rfl) HND.out (by simp [Value.oneCell']) (by omega) (by unfold maxLen;omega) (by omega) HMD.out.2.size (w2.heap.size+1) (by simp) ?_
     intro gA capA wA hownA hgrowA hatA hltA
     have HMA:Hid (RMem w2 wA (.slice (some ⟨gA,0,none⟩) (1+3) capA) (1+3) ([(⟨#[119,101,105,114]⟩:ByteArray)]++[nm,fr,tn])):=HMD.out.more hownA hgrowA
     have hqA:Below w2.heap.size w2 wA:=HMA.out.2
     rw [show (1+3:Nat)=4 from rfl] at HMA⊢
     clear hownA hgrowA hatA hltA)
   |(fail_if_success (fail_if_success (clear hqA))
     refine step_append_lies _ (by rfl) _ _ _ (by rfl) w2.heap.size 9 SI0 (.string ByteArray.empty) 1 16 Tryz.underlying41 SI1.out SI2.out SI3.out SI4.out rfl (by omega) (.slice (some ⟨gA,0,none⟩) 4 capA) 4 (sc [(⟨#[119,101,105,114]⟩:ByteArray),nm,fr,tn]) (by rfl) (HMA.out.1.alloc _) ⟨wA.heap.size,0,none⟩ 2 2 [.string b2,.string b4] (by rfl) (by rfl) (World.news_of_block (cs:=#[.string b2,.string b4]) (t:=9) (fr:=(0,0)) (heap_alloc_new wA _)) (by simp [Value.oneCell']) (by omega) (by unfold maxLen;omega) (by omega) (zA9 HMA.out.2.size _) (wA.heap.size+1) (by simp) ?_
     intro gB capB wB hownB hgrowB hatB hltB
     have HMB:Hid (RMem w2 wB (.slice (some ⟨gB,0,none⟩) (4+2) capB) (4+2) ([(⟨#[119,101,105,114]⟩:ByteArray),nm,fr,tn]++[b2,b4])):=(RMem.al HMA.out _).more hownB hgrowB
     have hqB:Below w2.heap.size w2 wB:=HMB.out.2
     rw [show (4+2:Nat)=6 from rfl] at HMB⊢
     clear hownB hgrowB hatB hltB)
   |(go_at_call 126
     with_reducible refine (S2.out _).mono ?_
     rintro e w5 ⟨rfl,rfl⟩)
   |(go_at_call 126
     with_reducible refine (S4.out _).mono ?_
     rintro e w5 ⟨rfl,rfl⟩)
   |(go_at_call 121
     refine (SW.out [(⟨#[119,101,105,114]⟩:ByteArray),nm,fr,tn,b2,b4] gB capB _ (by simp) HSZ.out (zF6 HMB.out.1)).mono ?_
     rintro e w7 ⟨rfl,rfl⟩))
  try go_wp2_with fail
  go_ret
  exact ⟨by rw [HEQ.out];rfl,zA1 HB2.out hqB⟩
 ·have HEQ:Hid (lkT ⟨nm,fr,tn,3,ln,up,dn,sx,wd,hh,T⟩=jn [(⟨#[103,97,116,101]⟩:ByteArray),nm,fr,tn,b2,b4,b5]):=by
   refine HLK.out.trans ?_
   rw [←hb2,←hb4,←hb5]
   first |rfl |simp [lkB,lkK,kPipe,zL9,kGate,kPump]
  have HSZ:Hid (∀b,b∈[(⟨#[103,97,116,101]⟩:ByteArray),nm,fr,tn,b2,b4,b5]→b.size≤3000):=by
   intro b hb
   simp only [List.mem_cons,List.not_mem_nil,or_false] at hb
   rcases hb with rfl |rfl |rfl |rfl |rfl |rfl |rfl
   ·decide
   ·exact nT l1 (by omega)
   ·exact nT l2 (by omega)
   ·exact nT l3 (by omega)
   ·exact nT m2 (by omega)
   ·exact nT m4 (by omega)
   ·exact nT m5 (by omega)
  have HMD:Hid (RMem w2 (w2.drew.alloc (.cells #[.string ⟨#[103,97,116,101]⟩] 9)) (.slice (some ⟨w2.heap.size,0,none⟩) 1 1) 1 [(⟨#[103,97,116,101]⟩:ByteArray)]):=⟨(RMem.lit w2.drew _).1,(bR _ w2).drew.alloc (nl _) _⟩
  have HND:Hid (∀j u,([.string nm,.string fr,.string tn]:List Value)[j]?=some u→(w2.drew.alloc (.cells #[.string ⟨#[103,97,116,101]⟩] 9)).cell? ((⟨g,0,none⟩:Addr).add j)=some u):=zL6 HE2.out ((bR _ w2).drew.alloc (nl _) _)
  clear htab hv hb1 hb2 hb3 hb4 hb5 n1 n2 n3 n4 n5 hnm hfr htn HLK
  obtain ⟨c0,c1,c2',c3,c4,c5,c6,c7,c8,c9,c10⟩:=zA5 HX2.out
  go_upto_region 8 with fail
  have hs0:w2.cell? ⟨w.heap.size,5,none⟩=some (.int .i64 up)∧w2.cell? ⟨w.heap.size,8,none⟩=some (.int .i64 wd)∧w2.cell? ⟨w.heap.size,9,none⟩=some (.int .i64 hh):=⟨c5,c8,c9⟩
  have hs1:w2.drew.cell? ⟨w.heap.size,5,none⟩=some (.int .i64 up)∧w2.drew.cell? ⟨w.heap.size,8,none⟩=some (.int .i64 wd)∧w2.drew.cell? ⟨w.heap.size,9,none⟩=some (.int .i64 hh):=⟨c5,c8,c9⟩
  have HS:Hid (∀w',Below w2.heap.size w2 w'→w'.cell? ⟨w.heap.size,5,none⟩=some (.int .i64 up)∧w'.cell? ⟨w.heap.size,8,none⟩=some (.int .i64 wd)∧w'.cell? ⟨w.heap.size,9,none⟩=some (.int .i64 hh)):=fun w' hb=>by
   obtain ⟨d0,d1,d2,d3,d4,d5,d6,d7,d8,d9,d10⟩:=zA5 (HX2.out.call hb)
   exact ⟨d5,d8,d9⟩
  clear c0 c1 c2' c3 c4 c5 c6 c7 c8 c9 c10 l1 l2 l3 m1 m2 m3 m4 m5 hsx
  go_region_held3 (fun w'=>w'.cell? ⟨w.heap.size,5,none⟩=some (.int .i64 up)∧w'.cell? ⟨w.heap.size,8,none⟩=some (.int .i64 wd)∧w'.cell? ⟨w.heap.size,9,none⟩=some (.int .i64 hh)) (first |with_reducible exact hs0 |with_reducible exact hs1 |exact HS.out _ hqB |exact HS.out _ hqA |exact HS.out _ hqT |exact HS.out _ hqB.drew |exact HS.out _ hqA.drew |exact HS.out _ hqT.drew |exact HS.out _ bel) (first
   |(fail_if_success (clear hqA)
     refine step_append_lies _ (by rfl) _ _ _ (by rfl) w2.heap.size 9 SI0 (.string ByteArray.empty) 1 16 Tryz.underlying41 SI1.out SI2.out SI3.out SI4.out rfl (by omega) (.slice (some ⟨w2.heap.size,0,none⟩) 1 1) 1 (sc [(⟨#[103,97,116,101]⟩:ByteArray)]) (by rfl) HMD.out.1 ⟨g,0,none⟩ 3 3 [.string nm,.string fr,.string tn] (by rfl) (by rfl) HND.out (by simp [Value.oneCell']) (by omega) (by unfold maxLen;omega) (by omega) HMD.out.2.size (w2.heap.size+1) (by simp) ?_
     intro gA capA wA hownA hgrowA hatA hltA
     have HMA:Hid (RMem w2 wA (.slice (some ⟨gA,0,none⟩) (1+3) capA) (1+3) ([(⟨#[103,97,116,101]⟩:ByteArray)]++[nm,fr,tn])):=HMD.out.more hownA hgrowA
     have hqA:Below w2.heap.size w2 wA:=HMA.out.2
     rw [show (1+3:Nat)=4 from rfl] at HMA⊢
     clear hownA hgrowA hatA hltA)
   |(fail_if_success (fail_if_success (clear hqA))
     refine step_append_lies _ (by rfl) _ _ _ (by rfl) w2.heap.size 9 SI0 (.string ByteArray.empty) 1 16 Tryz.underlying41 SI1.out SI2.out SI3.out SI4.out rfl (by omega) (.slice (some ⟨gA,0,none⟩) 4 capA) 4 (sc [(⟨#[103,97,116,101]⟩:ByteArray),nm,fr,tn]) (by rfl) (HMA.out.1.alloc _) ⟨wA.heap.size,0,none⟩ 3 3 [.string b2,.string b4,.string b5] (by rfl) (by rfl) (World.news_of_block (cs:=#[.string b2,.string b4,.string b5]) (t:=9) (fr:=(0,0)) (heap_alloc_new wA _)) (by simp [Value.oneCell']) (by omega) (by unfold maxLen;omega) (by omega) (zA9 HMA.out.2.size _) (wA.heap.size+1) (by simp) ?_
     intro gB capB wB hownB hgrowB hatB hltB
     have HMB:Hid (RMem w2 wB (.slice (some ⟨gB,0,none⟩) (4+3) capB) (4+3) ([(⟨#[103,97,116,101]⟩:ByteArray),nm,fr,tn]++[b2,b4,b5])):=(RMem.al HMA.out _).more hownB hgrowB
     have hqB:Below w2.heap.size w2 wB:=HMB.out.2
     rw [show (4+3:Nat)=7 from rfl] at HMB⊢
     clear hownB hgrowB hatB hltB)
   |(go_at_call 126
     with_reducible refine (S2.out _).mono ?_
     rintro e w5 ⟨rfl,rfl⟩)
   |(go_at_call 126
     with_reducible refine (S4.out _).mono ?_
     rintro e w5 ⟨rfl,rfl⟩)
   |(go_at_call 126
     with_reducible refine (S5.out _).mono ?_
     rintro e w5 ⟨rfl,rfl⟩)
   |(go_at_call 121
     refine (SW.out [(⟨#[103,97,116,101]⟩:ByteArray),nm,fr,tn,b2,b4,b5] gB capB _ (by simp) HSZ.out (zF6 HMB.out.1)).mono ?_
     rintro e w7 ⟨rfl,rfl⟩))
  try go_wp2_with fail
  go_ret
  exact ⟨by rw [HEQ.out];rfl,zA1 HB2.out hqB⟩
 ·obtain ⟨t1,t2⟩:=htab (by decide)
  obtain ⟨bq,off,rfl,hta⟩:=tab_at HT.out t1.1
  have HTS:Hid ((tBA T).size≤2500):=nT t2 (by omega)
  have ST':Hid (∀w',Below w.heap.size w w'→Calls Tryz.prog 127 #[.slice (some ⟨bq,off,none⟩) T.length cc] w' fun e w''=>e= .returned (.string (tBA T))∧Below w'.heap.size w' w''):=fun w' hb=>zK4 bq off T.length cc (kX T) (kY T) w' t1 (hta.below hb hta.1)
  have mt:=HTS.out
  obtain ⟨tb,htb⟩:∃tb,tBA T=tb:=⟨_,rfl⟩
  rw [htb] at ST' mt
  have HEQ:Hid (lkT ⟨nm,fr,tn,4,ln,up,dn,sx,wd,hh,T⟩=jn [(⟨#[112,117,109,112]⟩:ByteArray),nm,fr,tn,b2,b3,tb]):=by
   refine HLK.out.trans ?_
   rw [←hb2,←hb3,←htb]
   first |rfl |simp [lkB,lkK,kPipe,zL9,kGate,kPump]
  have HSZ:Hid (∀b,b∈[(⟨#[112,117,109,112]⟩:ByteArray),nm,fr,tn,b2,b3,tb]→b.size≤3000):=by
   intro b hb
   simp only [List.mem_cons,List.not_mem_nil,or_false] at hb
   rcases hb with rfl |rfl |rfl |rfl |rfl |rfl |rfl
   ·decide
   ·exact nT l1 (by omega)
   ·exact nT l2 (by omega)
   ·exact nT l3 (by omega)
   ·exact nT m2 (by omega)
   ·exact nT m3 (by omega)
   ·exact nT mt (by omega)
  have HMD:Hid (RMem w2 (w2.drew.alloc (.cells #[.string ⟨#[112,117,109,112]⟩] 9)) (.slice (some ⟨w2.heap.size,0,none⟩) 1 1) 1 [(⟨#[112,117,109,112]⟩:ByteArray)]):=⟨(RMem.lit w2.drew _).1,(bR _ w2).drew.alloc (nl _) _⟩
  have HND:Hid (∀j u,([.string nm,.string fr,.string tn]:List Value)[j]?=some u→(w2.drew.alloc (.cells #[.string ⟨#[112,117,109,112]⟩] 9)).cell? ((⟨g,0,none⟩:Addr).add j)=some u):=zL6 HE2.out ((bR _ w2).drew.alloc (nl _) _)
  clear htab hv hb1 hb2 hb3 hb4 hb5 n1 n2 n3 n4 n5 hnm hfr htn HLK htb t1 t2 hta
  obtain ⟨c0,c1,c2',c3,c4,c5,c6,c7,c8,c9,c10⟩:=zA5 HX2.out
  go_upto_region 9 with fail
  have hs0:w2.cell? ⟨w.heap.size,5,none⟩=some (.int .i64 up)∧w2.cell? ⟨w.heap.size,6,none⟩=some (.int .i64 dn)∧w2.cell? ⟨w.heap.size,10,none⟩=some (.slice (some ⟨bq,off,none⟩) T.length cc):=⟨c5,c6,c10⟩
  have hs1:w2.drew.cell? ⟨w.heap.size,5,none⟩=some (.int .i64 up)∧w2.drew.cell? ⟨w.heap.size,6,none⟩=some (.int .i64 dn)∧w2.drew.cell? ⟨w.heap.size,10,none⟩=some (.slice (some ⟨bq,off,none⟩) T.length cc):=⟨c5,c6,c10⟩
  have HS:Hid (∀w',Below w2.heap.size w2 w'→w'.cell? ⟨w.heap.size,5,none⟩=some (.int .i64 up)∧w'.cell? ⟨w.heap.size,6,none⟩=some (.int .i64 dn)∧w'.cell? ⟨w.heap.size,10,none⟩=some (.slice (some ⟨bq,off,none⟩) T.length cc)):=fun w' hb=>by
   obtain ⟨d0,d1,d2,d3,d4,d5,d6,d7,d8,d9,d10⟩:=zA5 (HX2.out.call hb)
   exact ⟨d5,d6,d10⟩
  clear c0 c1 c2' c3 c4 c5 c6 c7 c8 c9 c10 l1 l2 l3 m1 m2 m3 m4 m5 hsx mt
  go_region_held3 (fun w'=>w'.cell? ⟨w.heap.size,5,none⟩=some (.int .i64 up)∧w'.cell? ⟨w.heap.size,6,none⟩=some (.int .i64 dn)∧w'.cell? ⟨w.heap.size,10,none⟩=some (.slice (some ⟨bq,off,none⟩) T.length cc)) (first |with_reducible exact hs0 |with_reducible exact hs1 |exact HS.out _ hqB |exact HS.out _ hqA |exact HS.out _ hqT |exact HS.out _ hqB.drew |exact HS.out _ hqA.drew |exact HS.out _ hqT.drew |exact HS.out _ bel) (first
   |(fail_if_success (clear hqA)
     refine step_append_lies _ (by rfl) _ _ _ (by rfl) w2.heap.size 9 SI0 (.string ByteArray.empty) 1 16 Tryz.underlying41 SI1.out SI2.out SI3.out SI4.out rfl (by omega) (.slice (some ⟨w2.heap.size,0,none⟩) 1 1) 1 (sc [(⟨#[112,117,109,112]⟩:ByteArray)]) (by rfl) HMD.out.1 ⟨g,0,none⟩ 3 3 [.string nm,.string fr,.string tn] (by rfl) (by rfl) HND.out (by simp [Value.oneCell']) (by omega) (by unfold maxLen;omega) (by omega) HMD.out.2.size (w2.heap.size+1) (by simp) ?_
     intro gA capA wA hownA hgrowA hatA hltA
     have HMA:Hid (RMem w2 wA (.slice (some ⟨gA,0,none⟩) (1+3) capA) (1+3) ([(⟨#[112,117,109,112]⟩:ByteArray)]++[nm,fr,tn])):=HMD.out.more hownA hgrowA
     have hqA:Below w2.heap.size w2 wA:=HMA.out.2
     rw [show (1+3:Nat)=4 from rfl] at HMA⊢
     clear hownA hgrowA hatA hltA)
   |(fail_if_success (fail_if_success (clear hqA))
     refine step_append_lies _ (by rfl) _ _ _ (by rfl) w2.heap.size 9 SI0 (.string ByteArray.empty) 1 16 Tryz.underlying41 SI1.out SI2.out SI3.out SI4.out rfl (by omega) (.slice (some ⟨gA,0,none⟩) 4 capA) 4 (sc [(⟨#[112,117,109,112]⟩:ByteArray),nm,fr,tn]) (by rfl) (HMT.out.1.alloc _) ⟨wT.heap.size,0,none⟩ 3 3 [.string b2,.string b3,.string tb] (by rfl) (by rfl) (World.news_of_block (cs:=#[.string b2,.string b3,.string tb]) (t:=9) (fr:=(0,0)) (heap_alloc_new wT _)) (by simp [Value.oneCell']) (by omega) (by unfold maxLen;omega) (by omega) (zA9 HMT.out.2.size _) (wT.heap.size+1) (by simp) ?_
     intro gB capB wB hownB hgrowB hatB hltB
     have HMB:Hid (RMem w2 wB (.slice (some ⟨gB,0,none⟩) (4+3) capB) (4+3) ([(⟨#[112,117,109,112]⟩:ByteArray),nm,fr,tn]++[b2,b3,tb])):=(RMem.al HMT.out _).more hownB hgrowB
     have hqB:Below w2.heap.size w2 wB:=HMB.out.2
     rw [show (4+3:Nat)=7 from rfl] at HMB⊢
     clear hownB hgrowB hatB hltB)
   |(go_at_call 126
     with_reducible refine (S2.out _).mono ?_
     rintro e w5 ⟨rfl,rfl⟩)
   |(go_at_call 126
     with_reducible refine (S3.out _).mono ?_
     rintro e w5 ⟨rfl,rfl⟩)
   |(go_at_call 127
     refine (ST'.out _ (zA1 HB2.out hqA)).mono ?_
     rintro e wT ⟨rfl,hbT⟩
     have HMT:=LH (HMA.out.call hbT)
     have hqT:Below w2.heap.size w2 wT:=zA1 hqA hbT
     clear hbT)
   |(go_at_call 121
     refine (SW.out [(⟨#[112,117,109,112]⟩:ByteArray),nm,fr,tn,b2,b3,tb] gB capB _ (by simp) HSZ.out (zF6 HMB.out.1)).mono ?_
     rintro e w7 ⟨rfl,rfl⟩))
  try go_wp2_with fail
  go_ret
  exact ⟨by rw [HEQ.out];rfl,zA1 HB2.out hqB⟩
end Go.Proofs.YtghefgifhebniaaGreatDoor

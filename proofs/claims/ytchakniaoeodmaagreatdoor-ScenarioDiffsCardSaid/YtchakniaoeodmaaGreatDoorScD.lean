/- Diff of package scenario. Written by gen_scd.py. -/
import Derived.Test.YtchakniaoeodmaaGreatDoorMgM
namespace Go.Proofs.YtchakniaoeodmaaGreatDoor
open Go.RowKit
set_option linter.unusedVariables false
set_option linter.unusedSimpArgs false
set_option maxRecDepth 100000 in
set_option maxHeartbeats 32000000 in
theorem sc_Diff (NA LA NB LB:Option Addr) (n nc0 m lc0 n' nc1 m' lc1:Nat) (D D':Nds) (K K':Lks) (w:World) (hv:VS (recN D n) (recL K m)) (hv':VS (recN D' n') (recL K' m')) (hD:NdIn w NA n D) (hK:LkIn w LA m K) (hD':NdIn w NB n' D') (hK':LkIn w LB m' K'):
 Calls Tryz.prog 29 #[.agg #[.slice NA n nc0,.slice LA m lc0],.agg #[.slice NB n' nc1,.slice LB m' lc1]] w fun e w'=>∃u,e= .returned (.tuple #[u,.int .i64 0])∧ChPost (dfF (recN D n) (recL K m) (recN D' n') (recL K' m')) w u w':=by
 have hz:=hv.zz
 have hz':=hv'.zz
 have HV:=LH hv
 have HLN:Hid (n≤300∧m≤400∧n'≤300∧m'≤400):=⟨by have:=hv.n300;rwa [zA3] at this,by have:=hv.l400;rwa [zA4] at this,by have:=hv'.n300;rwa [zA3] at this,by have:=hv'.l400;rwa [zA4] at this⟩
 have SCa:Hid (∀w',Below w.heap.size w w'→Calls Tryz.prog 69 #[.agg #[.slice NA n nc0,.slice LA m lc0]] w' fun e w''=>∃u,e= .returned u∧CpPost (recN D n) (recL K m) w' u w''):=fun w' hb=>zF2 NA LA n nc0 m lc0 D K w' hz (zB3 hD hb) (zB1 hK hb)
 have SCb:Hid (∀w',Below w.heap.size w w'→Calls Tryz.prog 69 #[.agg #[.slice NB n' nc1,.slice LB m' lc1]] w' fun e w''=>∃u,e= .returned u∧CpPost (recN D' n') (recL K' m') w' u w''):=fun w' hb=>zF2 NB LB n' nc1 m' lc1 D' K' w' hz' (zB3 hD' hb) (zB1 hK' hb)
 have SVa:Hid (∀w',Below w.heap.size w w'→Calls Tryz.prog 68 #[.agg #[.slice NA n nc0,.slice LA m lc0]] w' fun e w''=>e= .returned (.bool true)∧Below w'.heap.size w' w''):=fun w' hb=>by
  have h:=zF4 NA LA n nc0 m lc0 D K hz.sz w' (zB3 hD hb) (zB1 hK hb)
  rw [zA2 hv.to] at h
  exact h
 have SVb:Hid (∀w',Below w.heap.size w w'→Calls Tryz.prog 68 #[.agg #[.slice NB n' nc1,.slice LB m' lc1]] w' fun e w''=>e= .returned (.bool true)∧Below w'.heap.size w' w''):=fun w' hb=>by
  have h:=zF4 NB LB n' nc1 m' lc1 D' K' hz'.sz w' (zB3 hD' hb) (zB1 hK' hb)
  rw [zA2 hv'.to] at h
  exact h
 have HAL:Hid (Below w.heap.size w ((w.alloc (Obj.cells #[.slice NA n nc0,.slice LA m lc0] 52)).alloc (Obj.cells #[.slice NB n' nc1,.slice LB m' lc1] 52))):=((bR _ w).alloc (nl _) _).alloc (by simp) _
 have HXA:Hid (Blk ((w.alloc (Obj.cells #[.slice NA n nc0,.slice LA m lc0] 52)).alloc (Obj.cells #[.slice NB n' nc1,.slice LB m' lc1] 52)) w.heap.size 52 #[.slice NA n nc0,.slice LA m lc0]):=(Blk.new _ _ _).alloc _
 have HXB:Hid (Blk ((w.alloc (Obj.cells #[.slice NA n nc0,.slice LA m lc0] 52)).alloc (Obj.cells #[.slice NB n' nc1,.slice LB m' lc1] 52)) (w.heap.size+1) 52 #[.slice NB n' nc1,.slice LB m' lc1]):=by have h:=Blk.new (w.alloc (Obj.cells #[.slice NA n nc0,.slice LA m lc0] 52)) 52 #[.slice NB n' nc1,.slice LB m' lc1];rw [zB0] at h;exact h
 clear hv hv' hz hz' hD hK hD' hK'
 go_enter Tryz.func29,Tryz.ntmps29
 go_upto_region 1 with fail
 generalize (w.alloc (Obj.cells #[.slice NA n nc0,.slice LA m lc0] 52)).alloc (Obj.cells #[.slice NB n' nc1,.slice LB m' lc1] 52)=w3 at HAL HXA HXB⊢
 obtain ⟨d0,d1⟩:=blk2 HXA.out
 obtain ⟨e0,e1⟩:=blk2 HXB.out
 go_upto_region 3 with (first
  |(go_at_call 68
    with_reducible refine (SVa.out _ HAL.out).mono ?_
    rintro e w3 ⟨rfl,hb4⟩
    have HXA:=LH (HXA.out.call hb4)
    have HXB:=LH (HXB.out.call hb4)
    have HAL1:=LH (zA1 HAL.out hb4)
    clear d0 d1 e0 e1 hb4
    obtain ⟨d0,d1⟩:=blk2 HXA.out
    obtain ⟨e0,e1⟩:=blk2 HXB.out)
  |(go_at_call 68
    with_reducible refine (SVb.out _ HAL1.out).mono ?_
    rintro e w3 ⟨rfl,hb4⟩
    have HXA:=LH (HXA.out.call hb4)
    have HXB:=LH (HXB.out.call hb4)
    have HAL:=LH (zA1 HAL1.out hb4)
    clear d0 d1 e0 e1 hb4
    obtain ⟨d0,d1⟩:=blk2 HXA.out
    obtain ⟨e0,e1⟩:=blk2 HXB.out))
 clear d0 d1 e0 e1
 go_cut [] from 28 to 32 (fun wx=>∃(A1 B1 A2 B2:Option Addr) (c1 d1 c2 d2:Nat) (Da:Nds) (Ka:Lks) (Db:Nds) (Kb:Lks),Hid (DfW w (recN D n) (recL K m) (recN D' n') (recL K' m') n m n' m' A1 B1 A2 B2 c1 d1 c2 d2 Da Ka Db Kb wx))
 case first=>
  obtain ⟨d0,d1⟩:=blk2 HXA.out
  obtain ⟨e0,e1⟩:=blk2 HXB.out
  have f0:=HXA.out.frozen 0
  have f1:=HXA.out.frozen 1
  have g0:=HXB.out.frozen 0
  have g1:=HXB.out.frozen 1
  have hdr:Below w3.heap.size w3 w3.drew:=(bR w3.heap.size w3).drew
  go_region_law (first
   |(go_simp
     go_at_call 69
     with_reducible refine (SCa.out _ ?_).mono ?_
     focus (exact zA1 HAL.out hdr)
     rintro e w4 ⟨u,rfl,NM,LM,A1,B1,c1,d1',q1,q2,rfl,hr,hb⟩
     rw [zA3] at hr
     rw [zA4] at hr
     rw [zA3,zA4]
     have hq4:Below w3.heap.size w3 w4:=hdr.trans hb
     have HXA4:=LH (HXA.out.call hq4)
     have HXB4:=LH (HXB.out.call hq4)
     have HCR4:=LH hr
     have HQ1:=LH q1
     have HQ2:=LH q2
     obtain ⟨p0,p1⟩:=blk2 HXB4.out
     clear hr q1 q2 hb)
   |(go_simp
     go_at_call 69
     with_reducible refine (SCb.out _ ?_).mono ?_
     focus (exact zA1 HAL.out hq4)
     rintro e w5 ⟨u,rfl,NM2,LM2,A2,B2,c2,d2,q3,q4,rfl,hr,hb⟩
     rw [zA3] at hr
     rw [zA4] at hr
     rw [zA3,zA4]
     have hq5:Below w3.heap.size w3 w5:=zA1 hq4 hb
     have HXA5:=LH (HXA4.out.call hb)
     have HXB5:=LH (HXB4.out.call hb)
     have HCR5:=LH (HCR4.out.call hb)
     have HCS5:=LH (hr.lower hq4.size)
     have HQ3:=LH q3
     have HQ4:=LH q4
     have HSZ:=LH hb.size
     obtain ⟨x0,x1⟩:=blk2 HXA5.out
     obtain ⟨y0,y1⟩:=blk2 HXB5.out
     have f0:=HXA5.out.frozen 0
     have f1:=HXA5.out.frozen 1
     have g0:=HXB5.out.frozen 0
     have g1:=HXB5.out.frozen 1
     clear hr q3 q4 hb))
  all_goals
   have ha:w.heap.size<w3.heap.size:=HXA.out.lt
   have hb':w.heap.size+1<w3.heap.size:=HXB.out.lt
   have R1:Hid (CpR w3.heap.size NM LM (.slice A1 n c1) (.slice B1 m d1') ((((w5.setCell ⟨w.heap.size,0,none⟩ (.slice A1 n c1)).setCell ⟨w.heap.size,1,none⟩ (.slice B1 m d1')).setCell ⟨w.heap.size+1,0,none⟩ (.slice A2 n' c2)).setCell ⟨w.heap.size+1,1,none⟩ (.slice B2 m' d2))):=(((HCR5.out.low ha 0 _).low ha 1 _).low hb' 0 _).low hb' 1 _
   have R2:Hid (CpR w3.heap.size NM2 LM2 (.slice A2 n' c2) (.slice B2 m' d2) ((((w5.setCell ⟨w.heap.size,0,none⟩ (.slice A1 n c1)).setCell ⟨w.heap.size,1,none⟩ (.slice B1 m d1')).setCell ⟨w.heap.size+1,0,none⟩ (.slice A2 n' c2)).setCell ⟨w.heap.size+1,1,none⟩ (.slice B2 m' d2))):=(((HCS5.out.low ha 0 _).low ha 1 _).low hb' 0 _).low hb' 1 _
   have XA:Hid (Blk ((((w5.setCell ⟨w.heap.size,0,none⟩ (.slice A1 n c1)).setCell ⟨w.heap.size,1,none⟩ (.slice B1 m d1')).setCell ⟨w.heap.size+1,0,none⟩ (.slice A2 n' c2)).setCell ⟨w.heap.size+1,1,none⟩ (.slice B2 m' d2)) w.heap.size 52 #[.slice A1 n c1,.slice B1 m d1']):=(((HXA5.out.set_ 0 _).set_ 1 _).far (p:=⟨w.heap.size+1,0,none⟩) (by show w.heap.size≠w.heap.size+1;omega) _).far (p:=⟨w.heap.size+1,1,none⟩) (by show w.heap.size≠w.heap.size+1;omega) _
   have XB:Hid (Blk ((((w5.setCell ⟨w.heap.size,0,none⟩ (.slice A1 n c1)).setCell ⟨w.heap.size,1,none⟩ (.slice B1 m d1')).setCell ⟨w.heap.size+1,0,none⟩ (.slice A2 n' c2)).setCell ⟨w.heap.size+1,1,none⟩ (.slice B2 m' d2)) (w.heap.size+1) 52 #[.slice A2 n' c2,.slice B2 m' d2]):=(((HXB5.out.far (p:=⟨w.heap.size,0,none⟩) (by show w.heap.size+1≠w.heap.size;omega) _).far (p:=⟨w.heap.size,1,none⟩) (by show w.heap.size+1≠w.heap.size;omega) _).set_ 0 _).set_ 1 _
   have BL:Hid (Below w.heap.size w ((((w5.setCell ⟨w.heap.size,0,none⟩ (.slice A1 n c1)).setCell ⟨w.heap.size,1,none⟩ (.slice B1 m d1')).setCell ⟨w.heap.size+1,0,none⟩ (.slice A2 n' c2)).setCell ⟨w.heap.size+1,1,none⟩ (.slice B2 m' d2))):=((((zA1 HAL.out hq5).setCell (p:=⟨w.heap.size,0,none⟩) (nl _) _).setCell (p:=⟨w.heap.size,1,none⟩) (nl _) _).setCell (p:=⟨w.heap.size+1,0,none⟩) (by show w.heap.size≤w.heap.size+1;omega) _).setCell (p:=⟨w.heap.size+1,1,none⟩) (by show w.heap.size≤w.heap.size+1;omega) _
   have hl:=HLN.out
   go_wp2_with fail
   go_meet
   exact ⟨A1,B1,A2,B2,c1,d1',c2,d2,ndsM NM,lksM LM,ndsM NM2,lksM LM2,DfW.make HQ1.out HQ2.out HQ3.out HQ4.out (zA3 _ _) (zA4 _ _) (zA3 _ _) (zA4 _ _) (by omega) (by omega) (by omega) (by omega) R1.out R2.out XA.out XB.out BL.out⟩
 case rest=>
 rename World=>w0
 obtain ⟨A1,B1,A2,B2,c1,d1,c2,d2,Da,Ka,Db,Kb,HDW⟩:=hcut
 clear HAL HXA HXB SCa SCb SVa SVb
 obtain ⟨d0,d1_⟩:=blk2 HDW.out.xa
 obtain ⟨e0,e1_⟩:=blk2 HDW.out.xb
 have HM0:=LH (DfI.start w0)
 go_wp2_with fail
 go_loopw [8,35] (fun u v wr=>∃(i:Nat) (M:List Chm) (A:Option Addr) (c:Nat),Hid (i≤m)∧v= .int .i64 i∧u= .slice A M.length c∧Hid (DfI w0 wr (.slice A M.length c) M (ds1 Ka (recL Kb m') i))) (fun _ v _=>m - (RowKit.intOf v).toNat)
 case atStart=>exact ⟨0,[],none,0,Nat.zero_le _,rfl,rfl,HM0⟩
 case round=>
  clear HM0 d0 d1_ e0 e1_
  rename World=>wr
  obtain ⟨i,M,A,cp,Hi,rfl,rfl,HM⟩:=hrel
  by_cases hlt:i<m
  case pos=>
   have T0:decide ((i:Int)<(m:Int))=true:=by simp<;> omega
   have T0':decide (i<m)=true:=dU hlt
   obtain ⟨i',hi'⟩:∃z,z=i+1:=⟨_,rfl⟩
   have x0:IntKind.i64.wrap ((i:Int)+1)=(i':Int):=by have:=HLN.out;rw [IntKind.wrap_i64];omega
   have k0:(0:Int)≤(i:Int):=by omega
   have k1:(i:Int)<(m:Int):=by omega
   have HMS:Hid (m - (RowKit.intOf (Value.int .i64 (i':Int))).toNat<m - (RowKit.intOf (Value.int .i64 (i:Int))).toNat):=by show _<_;simp [RowKit.intOf];omega
   have HI':Hid (i'≤m∧i'=i+1):=⟨by omega,hi'⟩
   have HLL:Hid (M.length≤20000):=HM.out.small (by (try simp only [List.length_append]);have:=HLN.out;have:=zJ1 Ka (recL Kb m') i;omega)
   obtain ⟨b,off,hA,hb,hC,htab⟩:=HDW.out.ka.at hlt
   subst hA
   have HC:Hid (wr.rangeAt b (off+i*11) [.string (Ka.Nm i),.string (Ka.Fr i),.string (Ka.To i),.int .i64 (Ka.Kd i),.int .i64 (Ka.Ln i),.int .i64 (Ka.Up i),.int .i64 (Ka.Dn i),.string (Ka.Sc i),.int .i64 (Ka.Wd i),.int .i64 (Ka.Ht i),.slice (Ka.CA i) (Ka.CN i) (Ka.CC i)]):=hC.below HM.out.bel hb
   have HTB:=LH htab
   have SH:Hid (∀w',Below w0.heap.size w0 w'→Calls Tryz.prog 75 #[.agg #[.slice A2 n' c2,.slice B2 m' d2],.agg (cLk Ka i)] w' fun e w''=>e= .returned (.bool (boolOf (zA5 Ka i∈recL Kb m')))∧Below w'.heap.size w' w''):=fun w' hb=>sc_has A2 B2 n' c2 m' d2 Kb Ka i w' (by have:=HLN.out;omega) (HDW.out.kb.below (nl _) hb) (htab.below (nl _) hb)
   clear hi' hb hC htab
   go_upto_region 10 with (first
        |(refine wpList_load_mid rfl 32 (.tmp 37) rfl b (off+i*11) rfl _ _ HC.out Tryz.underlying32 rfl (by kernel_rfl) ?_)
        |(refine wpList_store_row rfl 32 (.tmp 10) (.tmp 38) rfl wr.heap.size (cLk Ka i) rfl rfl _ _ (Blk.new wr _ _) (by kernel_rfl) rfl (by kernel_rfl) ?_))
   have hal:Below wr.heap.size wr ((wr.alloc (Obj.cells #[.string ⟨#[]⟩,.string ⟨#[]⟩,.string ⟨#[]⟩,.int .i64 0,.int .i64 0,.int .i64 0,.int .i64 0,.string ⟨#[]⟩,.int .i64 0,.int .i64 0,.slice none 0 0] 32)).setRow wr.heap.size (cLk Ka i)):=zB4 ((bR _ wr).alloc (nl _) _) (Blk.new wr 32 _) (nl _)
   have HX:Hid (Blk ((wr.alloc (Obj.cells #[.string ⟨#[]⟩,.string ⟨#[]⟩,.string ⟨#[]⟩,.int .i64 0,.int .i64 0,.int .i64 0,.int .i64 0,.string ⟨#[]⟩,.int .i64 0,.int .i64 0,.slice none 0 0] 32)).setRow wr.heap.size (cLk Ka i)) wr.heap.size 32 (cLk Ka i)):=(Blk.new wr 32 _).setRow
   have HM4:=LH (HM.out.call hal)
   clear hal HM HC
   generalize (wr.alloc (Obj.cells #[.string ⟨#[]⟩,.string ⟨#[]⟩,.string ⟨#[]⟩,.int .i64 0,.int .i64 0,.int .i64 0,.int .i64 0,.string ⟨#[]⟩,.int .i64 0,.int .i64 0,.slice none 0 0] 32)).setRow wr.heap.size (cLk Ka i)=w4 at HX HM4⊢
   generalize wr.heap.size=G at HX⊢
   obtain ⟨d0,d1_⟩:=blk2 (HDW.out.xa.call HM4.out.bel)
   obtain ⟨e0,e1_⟩:=blk2 (HDW.out.xb.call HM4.out.bel)
   by_cases hp:zA5 Ka i∈recL Kb m'
   ·rw [zA2 hp] at SH
    have hpp:¬dpL (recL Kb m') (zA5 Ka i):=fun h=>h hp
    have HEQ:Hid (ds1 Ka (recL Kb m') i=ds1 Ka (recL Kb m') i'):=by show _=_;rw [HI'.out.2];exact (zK7 hpp).symm
    clear hp hpp
    go_wp2_with (first
     |(refine wpList_load_row rfl 32 (.tmp 10) rfl _ rfl _ _ (0,0) _ HX.out Tryz.underlying32 rfl (by kernel_rfl) ?_)
     |(go_at_call 75
       with_reducible refine (SH.out _ HM4.out.bel).mono ?_
       rintro e w5 ⟨rfl,hb5⟩
       have HM5:=LH (HM4.out.call hb5)
       have HX5:=LH (HX.out.call hb5)
       skip
       clear hb5))
    go_roundw
    case rel=>exact ⟨i',M,A,cp,HI'.out.1,rfl,rfl,HM5.out.to HEQ.out⟩
    case measure=>exact HMS.out
   ·rw [zA0 hp] at SH
    have hpp:dpL (recL Kb m') (zA5 Ka i):=hp
    have HEQ:Hid (ds1 Ka (recL Kb m') i++[chrR 6 (dqN ⟨#[]⟩) 0 (dqL (Ka.Nm i)) 0]=ds1 Ka (recL Kb m') i'):=by show _=_;rw [HI'.out.2];exact (zJ2 hpp).symm
    clear hp hpp
    go_wp2_with (first
     |(refine wpList_load_row rfl 32 (.tmp 10) rfl _ rfl _ _ (0,0) _ HX.out Tryz.underlying32 rfl (by kernel_rfl) ?_)
     |(go_at_call 75
       with_reducible refine (SH.out _ HM4.out.bel).mono ?_
       rintro e w5 ⟨rfl,hb5⟩
       have HM5:=LH (HM4.out.call hb5)
       have HX5:=LH (HX.out.call hb5)
       have hal8:Below w5.heap.size w5 (w5.alloc (Obj.cells #[.int .i64 6,.string ⟨#[]⟩,.int .i64 0,.int .i64 0,.int .i64 0,.int .i64 0,.int .i64 0,.slice none 0 0,.bool false,.int .i64 0,.string (Ka.Nm i),.string ⟨#[]⟩,.string ⟨#[]⟩,.int .i64 0,.int .i64 0,.int .i64 0,.int .i64 0,.string ⟨#[]⟩,.int .i64 0,.int .i64 0,.slice none 0 0] 34)):=(bR _ w5).alloc (nl _) _
       have HM8:=LH (HM5.out.call hal8)
       have HX8:Hid (Blk (w5.alloc (Obj.cells #[.int .i64 6,.string ⟨#[]⟩,.int .i64 0,.int .i64 0,.int .i64 0,.int .i64 0,.int .i64 0,.slice none 0 0,.bool false,.int .i64 0,.string (Ka.Nm i),.string ⟨#[]⟩,.string ⟨#[]⟩,.int .i64 0,.int .i64 0,.int .i64 0,.int .i64 0,.string ⟨#[]⟩,.int .i64 0,.int .i64 0,.slice none 0 0] 34)) w5.heap.size 34 (chm (chD 6 (dqN ⟨#[]⟩) 0 (dqL (Ka.Nm i)) 0)).toArray):=by rw [zE7];exact Blk.new _ _ _
       have q5:=HX5.out.cell 0
       simp only [List.getElem?_toArray,List.getElem?_cons_zero,List.getElem?_cons_succ] at q5
       clear hal8
       clear hb5)
     |(refine wpList_load_row rfl 32 (.tmp 10) rfl _ rfl _ _ (0,0) _ HX5.out Tryz.underlying32 rfl (by kernel_rfl) ?_)
     |(at_builtin
       refine zB6 rfl (.tmp 44) (.tmp 49) rfl w0.heap.size (.slice A M.length cp) M rfl HM8.out.own w5.heap.size (chD 6 (dqN ⟨#[]⟩) 0 (dqL (Ka.Nm i)) 0) rfl HX8.out HLL.out w0 HM8.out.bel (nl _) ?_
       intro A9 c9 w9 ho9 hb9 _ _
       have HM9:=LH (HM8.out.app ho9 hb9 (zB9 _ _ _) (zB9 _ _ _))
       clear ho9 hb9))
    go_roundw
    case rel=>exact ⟨i',M++[chD 6 (dqN ⟨#[]⟩) 0 (dqL (Ka.Nm i)) 0],A9,c9,HI'.out.1,rfl,by rw [List.length_append,List.length_singleton],HM9.out.to HEQ.out⟩
    case measure=>exact HMS.out
  have T0:decide ((i:Int)<(m:Int))=false:=by simp<;> omega
  have T0':decide (i<m)=false:=dF hlt
  have e:i=m:=by have:=Hi.out;omega
  have HM0:Hid (DfI w0 wr (.slice A M.length cp) M (ds1 Ka (recL Kb m') m)):=by have h:=HM.out;rw [e] at h;exact h
  obtain ⟨d0,d1_⟩:=blk2 (HDW.out.xa.call HM0.out.bel)
  obtain ⟨e0,e1_⟩:=blk2 (HDW.out.xb.call HM0.out.bel)
  clear hlt e HM Hi
  go_wp2_with fail
  go_loopw [8,55] (fun u v wr=>∃(i:Nat) (M:List Chm) (A:Option Addr) (c:Nat),Hid (i≤n)∧v= .int .i64 i∧u= .slice A M.length c∧Hid (DfI w0 wr (.slice A M.length c) M (ds1 Ka (recL Kb m') m++ds2 Da (recN Db n') i))) (fun _ v _=>n - (RowKit.intOf v).toNat)
  case atStart=>exact ⟨0,M,A,cp,Nat.zero_le _,rfl,rfl,HM0.out.to (by show _=_++[];rw [List.append_nil])⟩
  case round=>
   clear HM0 d0 d1_ e0 e1_
   rename World=>wr
   obtain ⟨i,M,A,cp,Hi,rfl,rfl,HM⟩:=hrel
   by_cases hlt:i<n
   case pos=>
        have T0:decide ((i:Int)<(n:Int))=true:=by simp<;> omega
        have T0':decide (i<n)=true:=dU hlt
        obtain ⟨i',hi'⟩:∃z,z=i+1:=⟨_,rfl⟩
        have x0:IntKind.i64.wrap ((i:Int)+1)=(i':Int):=by have:=HLN.out;rw [IntKind.wrap_i64];omega
        have k0:(0:Int)≤(i:Int):=by omega
        have k1:(i:Int)<(n:Int):=by omega
        have HMS:Hid (n - (RowKit.intOf (Value.int .i64 (i':Int))).toNat<n - (RowKit.intOf (Value.int .i64 (i:Int))).toNat):=by show _<_;simp [RowKit.intOf];omega
        have HI':Hid (i'≤n∧i'=i+1):=⟨by omega,hi'⟩
        have HLL:Hid (M.length≤20000):=HM.out.small (by (try simp only [List.length_append]);have:=HLN.out;have:=zJ1 Ka (recL Kb m') m;have:=zM3 Da (recN Db n') i;omega)
        obtain ⟨b,off,hA,hb,hC,htab⟩:=HDW.out.na.at hlt
        subst hA
        have HC:Hid (wr.rangeAt b (off+i*9) [.string (Da.Nm i),.int .i64 (Da.Kd i),.int .i64 (Da.Ax i),.int .i64 (Da.Ay i),.int .i64 (Da.Iv i),.int .i64 (Da.Gd i),.slice (Da.SA i) (Da.SN i) (Da.SC i),.bool (Da.Pt i),.int .i64 (Da.Rs i)]):=hC.below HM.out.bel hb
        have HTB:=LH htab
        have SH:Hid (∀w',Below w0.heap.size w0 w'→Calls Tryz.prog 73 #[.agg #[.slice A2 n' c2,.slice B2 m' d2],.string (Da.Nm i)] w' fun e w''=>e= .returned (.int .i64 (fnd Db.Nm n' (Da.Nm i)))∧Below w'.heap.size w' w''):=fun w' hb=>sc_dnode A2 B2 n' c2 m' d2 Db Kb _ w' (by have:=HLN.out;omega) (by have:=HLN.out;omega) (HDW.out.nb.below (nl _) hb) (HDW.out.kb.below (nl _) hb)
        clear hi' hb hC htab
        go_upto_region 16 with (first
         |(refine wpList_load_mid rfl 30 (.tmp 57) rfl b (off+i*9) rfl _ _ HC.out Tryz.underlying30 rfl (by kernel_rfl) ?_)
         |(refine wpList_store_row rfl 30 (.tmp 12) (.tmp 58) rfl wr.heap.size (cNd Da i) rfl rfl _ _ (Blk.new wr _ _) (by kernel_rfl) rfl (by kernel_rfl) ?_))
        have hal:Below wr.heap.size wr ((wr.alloc (Obj.cells #[.string ⟨#[]⟩,.int .i64 0,.int .i64 0,.int .i64 0,.int .i64 0,.int .i64 0,.slice none 0 0,.bool false,.int .i64 0] 30)).setRow wr.heap.size (cNd Da i)):=zB4 ((bR _ wr).alloc (nl _) _) (Blk.new wr 30 _) (nl _)
        have HX:Hid (Blk ((wr.alloc (Obj.cells #[.string ⟨#[]⟩,.int .i64 0,.int .i64 0,.int .i64 0,.int .i64 0,.int .i64 0,.slice none 0 0,.bool false,.int .i64 0] 30)).setRow wr.heap.size (cNd Da i)) wr.heap.size 30 (cNd Da i)):=(Blk.new wr 30 _).setRow
        have HM4:=LH (HM.out.call hal)
        clear hal HM HC
        generalize (wr.alloc (Obj.cells #[.string ⟨#[]⟩,.int .i64 0,.int .i64 0,.int .i64 0,.int .i64 0,.int .i64 0,.slice none 0 0,.bool false,.int .i64 0] 30)).setRow wr.heap.size (cNd Da i)=w4 at HX HM4⊢
        generalize wr.heap.size=G at HX⊢
        obtain ⟨d0,d1_⟩:=blk2 (HDW.out.xa.call HM4.out.bel)
        obtain ⟨e0,e1_⟩:=blk2 (HDW.out.xb.call HM4.out.bel)
        have q0:=HX.out.cell 0
        simp only [List.getElem?_toArray,List.getElem?_cons_zero,List.getElem?_cons_succ] at q0
        rcases zC4 Db.Nm n' (Da.Nm i) with ⟨hf,_⟩|⟨k,_,hf,_,_⟩
        ·rw [hf] at SH
         have hpp:dpD (recN Db n') (zA7 Da i):=zE2 hf
         have HEQ:Hid (ds1 Ka (recL Kb m') m++ds2 Da (recN Db n') i++[chrR 3 (dqN (Da.Nm i)) 0 (dqL ⟨#[]⟩) 0]=ds1 Ka (recL Kb m') m++ds2 Da (recN Db n') i'):=by show _=_;rw [HI'.out.2];show _=_++dfs _ _ _ (i+1);rw [zJ2 hpp,←List.append_assoc];rfl
         clear hf hpp
         go_wp2_with (first
          |(go_at_call 73
            with_reducible refine (SH.out _ HM4.out.bel).mono ?_
            rintro e w5 ⟨rfl,hb5⟩
            have HM5:=LH (HM4.out.call hb5)
            have HX5:=LH (HX.out.call hb5)
            have hal8:Below w5.heap.size w5 (w5.alloc (Obj.cells (cNm 3 (Da.Nm i)) 34)):=(bR _ w5).alloc (nl _) _
            have HM8:=LH (HM5.out.call hal8)
            have HX8:Hid (Blk (w5.alloc (Obj.cells (cNm 3 (Da.Nm i)) 34)) w5.heap.size 34 (chm (chD 3 (dqN (Da.Nm i)) 0 (dqL ⟨#[]⟩) 0)).toArray):=by rw [zE7];exact Blk.new _ _ _
            have q5:=HX5.out.cell 0
            simp only [List.getElem?_toArray,List.getElem?_cons_zero,List.getElem?_cons_succ] at q5
            clear hal8
            clear hb5)
          |(refine wpList_load_row rfl 30 (.tmp 12) rfl _ rfl _ _ (0,0) _ HX5.out Tryz.underlying30 rfl (by kernel_rfl) ?_)
          |(at_builtin
            refine zB6 rfl (.tmp 65) (.tmp 70) rfl w0.heap.size (.slice A M.length cp) M rfl HM8.out.own w5.heap.size (chD 3 (dqN (Da.Nm i)) 0 (dqL ⟨#[]⟩) 0) rfl HX8.out HLL.out w0 HM8.out.bel (nl _) ?_
            intro A9 c9 w9 ho9 hb9 _ _
            have HM9:=LH (HM8.out.app ho9 hb9 (zB9 _ _ _) (zB9 _ _ _))
            clear ho9 hb9))
         go_roundw
         case rel=>exact ⟨i',M++[chD 3 (dqN (Da.Nm i)) 0 (dqL ⟨#[]⟩) 0],A9,c9,HI'.out.1,rfl,by rw [List.length_append,List.length_singleton],HM9.out.to HEQ.out⟩
         case measure=>exact HMS.out
        ·rw [hf] at SH
         have hpp:¬dpD (recN Db n') (zA7 Da i):=fun h=>h (zE1 hf)
         have tk:decide ((k:Int)<0)=false:=dF (by omega)
         have HEQ:Hid (ds1 Ka (recL Kb m') m++ds2 Da (recN Db n') i=ds1 Ka (recL Kb m') m++ds2 Da (recN Db n') i'):=by show _=_;rw [HI'.out.2];show _=_++dfs _ _ _ (i+1);rw [zK7 hpp];rfl
         clear hf hpp
         go_wp2_with (first
          |(go_at_call 73
            with_reducible refine (SH.out _ HM4.out.bel).mono ?_
            rintro e w5 ⟨rfl,hb5⟩
            have HM5:=LH (HM4.out.call hb5)
            have HX5:=LH (HX.out.call hb5)
            skip
            clear hb5))
         go_roundw
         case rel=>exact ⟨i',M,A,cp,HI'.out.1,rfl,rfl,HM5.out.to HEQ.out⟩
         case measure=>exact HMS.out
   have T0:decide ((i:Int)<(n:Int))=false:=by simp<;> omega
   have T0':decide (i<n)=false:=dF hlt
   have e:i=n:=by have:=Hi.out;omega
   have HM0:Hid (DfI w0 wr (.slice A M.length cp) M (ds1 Ka (recL Kb m') m++ds2 Da (recN Db n') n)):=by have h:=HM.out;rw [e] at h;exact h
   obtain ⟨d0,d1_⟩:=blk2 (HDW.out.xa.call HM0.out.bel)
   obtain ⟨e0,e1_⟩:=blk2 (HDW.out.xb.call HM0.out.bel)
   clear hlt e HM Hi
   go_wp2_with fail
   go_loopw [8,76] (fun u v wr=>∃(i:Nat) (M:List Chm) (A:Option Addr) (c:Nat),Hid (i≤n')∧v= .int .i64 i∧u= .slice A M.length c∧Hid (DfI w0 wr (.slice A M.length c) M (ds1 Ka (recL Kb m') m++ds2 Da (recN Db n') n++ds3 Db (recN Da n) i))) (fun _ v _=>n' - (RowKit.intOf v).toNat)
   case atStart=>exact ⟨0,M,A,cp,Nat.zero_le _,rfl,rfl,HM0.out.to (by show _=_++[];rw [List.append_nil])⟩
   case round=>
        clear HM0 d0 d1_ e0 e1_
        rename World=>wr
        obtain ⟨i,M,A,cp,Hi,rfl,rfl,HM⟩:=hrel
        by_cases hlt:i<n'
        case pos=>
         have T0:decide ((i:Int)<(n':Int))=true:=by simp<;> omega
         have T0':decide (i<n')=true:=dU hlt
         obtain ⟨i',hi'⟩:∃z,z=i+1:=⟨_,rfl⟩
         have x0:IntKind.i64.wrap ((i:Int)+1)=(i':Int):=by have:=HLN.out;rw [IntKind.wrap_i64];omega
         have k0:(0:Int)≤(i:Int):=by omega
         have k1:(i:Int)<(n':Int):=by omega
         have HMS:Hid (n' - (RowKit.intOf (Value.int .i64 (i':Int))).toNat<n' - (RowKit.intOf (Value.int .i64 (i:Int))).toNat):=by show _<_;simp [RowKit.intOf];omega
         have HI':Hid (i'≤n'∧i'=i+1):=⟨by omega,hi'⟩
         have HLL:Hid (M.length≤20000):=HM.out.small (by (try simp only [List.length_append]);have:=HLN.out;have:=zJ1 Ka (recL Kb m') m;have:=zM3 Da (recN Db n') n;have:=zQ7 Db (recN Da n) i;omega)
         obtain ⟨b,off,hA,hb,hC,htab⟩:=HDW.out.nb.at hlt
         subst hA
         have HC:Hid (wr.rangeAt b (off+i*9) [.string (Db.Nm i),.int .i64 (Db.Kd i),.int .i64 (Db.Ax i),.int .i64 (Db.Ay i),.int .i64 (Db.Iv i),.int .i64 (Db.Gd i),.slice (Db.SA i) (Db.SN i) (Db.SC i),.bool (Db.Pt i),.int .i64 (Db.Rs i)]):=hC.below HM.out.bel hb
         have HTB:=LH htab
         have SH:Hid (∀w',Below w0.heap.size w0 w'→Calls Tryz.prog 73 #[.agg #[.slice A1 n c1,.slice B1 m d1],.string (Db.Nm i)] w' fun e w''=>e= .returned (.int .i64 (fnd Da.Nm n (Db.Nm i)))∧Below w'.heap.size w' w''):=fun w' hb=>sc_dnode A1 B1 n c1 m d1 Da Ka _ w' (by have:=HLN.out;omega) (by have:=HLN.out;omega) (HDW.out.na.below (nl _) hb) (HDW.out.ka.below (nl _) hb)
         clear hi' hb hC htab
         go_upto_region 22 with (first
          |(refine wpList_load_mid rfl 30 (.tmp 78) rfl b (off+i*9) rfl _ _ HC.out Tryz.underlying30 rfl (by kernel_rfl) ?_)
          |(refine wpList_store_row rfl 30 (.tmp 14) (.tmp 79) rfl wr.heap.size (cNd Db i) rfl rfl _ _ (Blk.new wr _ _) (by kernel_rfl) rfl (by kernel_rfl) ?_))
         have hal:Below wr.heap.size wr ((wr.alloc (Obj.cells #[.string ⟨#[]⟩,.int .i64 0,.int .i64 0,.int .i64 0,.int .i64 0,.int .i64 0,.slice none 0 0,.bool false,.int .i64 0] 30)).setRow wr.heap.size (cNd Db i)):=zB4 ((bR _ wr).alloc (nl _) _) (Blk.new wr 30 _) (nl _)
         have HX:Hid (Blk ((wr.alloc (Obj.cells #[.string ⟨#[]⟩,.int .i64 0,.int .i64 0,.int .i64 0,.int .i64 0,.int .i64 0,.slice none 0 0,.bool false,.int .i64 0] 30)).setRow wr.heap.size (cNd Db i)) wr.heap.size 30 (cNd Db i)):=(Blk.new wr 30 _).setRow
         have HM4:=LH (HM.out.call hal)
         clear hal HM HC
         generalize (wr.alloc (Obj.cells #[.string ⟨#[]⟩,.int .i64 0,.int .i64 0,.int .i64 0,.int .i64 0,.int .i64 0,.slice none 0 0,.bool false,.int .i64 0] 30)).setRow wr.heap.size (cNd Db i)=w4 at HX HM4⊢
         generalize wr.heap.size=G at HX⊢
         obtain ⟨d0,d1_⟩:=blk2 (HDW.out.xa.call HM4.out.bel)
         obtain ⟨e0,e1_⟩:=blk2 (HDW.out.xb.call HM4.out.bel)
         have q0:=HX.out.cell 0
         simp only [List.getElem?_toArray,List.getElem?_cons_zero,List.getElem?_cons_succ] at q0
         rcases zC4 Da.Nm n (Db.Nm i) with ⟨hf,_⟩|⟨k,hk,hf,hnm,_⟩
         ·rw [hf] at SH
          have hpp:¬dpS (recN Da n) (zA7 Db i):=fun h=>zE2 hf h.1
          have HEQ:Hid (ds1 Ka (recL Kb m') m++ds2 Da (recN Db n') n++ds3 Db (recN Da n) i=ds1 Ka (recL Kb m') m++ds2 Da (recN Db n') n++ds3 Db (recN Da n) i'):=by show _=_;rw [HI'.out.2];show _=_++dfs _ _ _ (i+1);rw [zK7 hpp];rfl
          clear hf hpp
          go_upto_region 23 with (first
           |(go_at_call 73
             with_reducible refine (SH.out _ HM4.out.bel).mono ?_
             rintro e w5 ⟨rfl,hb5⟩
             have HM5:=LH (HM4.out.call hb5)
             have HX5:=LH (HX.out.call hb5)
             skip
             clear hb5))
          have HM6:=LH (HM5.out.call (bR w5.heap.size w5).drew)
          clear d0 d1_ e0 e1_ q0
          go_region
          all_goals
           go_wp2_with fail
           go_roundw
           case rel=>exact ⟨i',M,A,cp,HI'.out.1,rfl,rfl,HM6.out.to HEQ.out⟩
           case measure=>exact HMS.out
         ·rw [hf] at SH
          have HHN:Hid (hasN (recN Da n) (zA7 Db i).nm):=zE1 hf
          have kk0:(0:Int)≤(k:Int):=by omega
          have kk1:(k:Int)<(n:Int):=by omega
          have tk:decide ((0:Int)≤(k:Int))=true:=dU (by omega)
          have HAT:Hid (zA7 Da k=zA7 Db i↔zA7 Db i∈recN Da n):=by
           have h:=at_nm (N:=recN Da n) (L:=recL Ka m) (by rw [HDW.out.ra,HDW.out.la];exact HV.out) (x:=zA7 Db i) (k:=k) (by rw [zA3];exact hk) (by rw [zO1 hk];exact hnm)
           rw [zO1 hk] at h
           exact h
          obtain ⟨ba,offa,hAa,hba,hCa,htaba⟩:=HDW.out.na.at hk
          subst hAa
          have HTA:=LH htaba
          have HCA:=LH hCa
          have HBA:=LH hba
          clear hf hnm hk htaba hCa hba
          go_upto_region 23 with (first
           |(go_at_call 73
             with_reducible refine (SH.out _ HM4.out.bel).mono ?_
             rintro e w5 ⟨rfl,hb5⟩
             have HM5:=LH (HM4.out.call hb5)
             have HX5:=LH (HX.out.call hb5)
             skip
             clear hb5))
          clear d0 d1_ e0 e1_ q0
          have HS:Hid (∀w',Below w5.heap.size w5 w'→w'.cell? ⟨w.heap.size,0,none⟩=some (.slice (some ⟨ba,offa,none⟩) n c1)∧w'.cell? ⟨ba,offa+k*9,none⟩=some (.string (Da.Nm k))∧w'.cell? ⟨ba,offa+k*9+1,none⟩=some (.int .i64 (Da.Kd k))∧w'.cell? ⟨ba,offa+k*9+2,none⟩=some (.int .i64 (Da.Ax k))∧w'.cell? ⟨ba,offa+k*9+3,none⟩=some (.int .i64 (Da.Ay k))∧w'.cell? ⟨ba,offa+k*9+4,none⟩=some (.int .i64 (Da.Iv k))∧w'.cell? ⟨ba,offa+k*9+5,none⟩=some (.int .i64 (Da.Gd k))∧w'.cell? ⟨ba,offa+k*9+6,none⟩=some (.slice (Da.SA k) (Da.SN k) (Da.SC k))∧w'.cell? ⟨ba,offa+k*9+7,none⟩=some (.bool (Da.Pt k))∧w'.cell? ⟨ba,offa+k*9+8,none⟩=some (.int .i64 (Da.Rs k))∧w'.cell? ⟨G,0,none⟩=some (.string (Db.Nm i))∧w'.cell? ⟨G,1,none⟩=some (.int .i64 (Db.Kd i))∧w'.cell? ⟨G,2,none⟩=some (.int .i64 (Db.Ax i))∧w'.cell? ⟨G,3,none⟩=some (.int .i64 (Db.Ay i))∧w'.cell? ⟨G,4,none⟩=some (.int .i64 (Db.Iv i))∧w'.cell? ⟨G,5,none⟩=some (.int .i64 (Db.Gd i))∧w'.cell? ⟨G,6,none⟩=some (.slice (Db.SA i) (Db.SN i) (Db.SC i))∧w'.cell? ⟨G,7,none⟩=some (.bool (Db.Pt i))∧w'.cell? ⟨G,8,none⟩=some (.int .i64 (Db.Rs i))):=fun w' hb=>by
           have hbb:=zA1 HM5.out.bel hb
           have hc:CellsAt w' ba (offa+k*9) (Da.vals k):=HCA.out.below hbb HBA.out
           obtain ⟨y0,y1,y2,y3,y4,y5,y6,y7,y8⟩:=blk9 (HX5.out.call hb)
           exact ⟨(HDW.out.xa.call hbb).cell 0,hc 0 _ rfl,hc 1 _ rfl,hc 2 _ rfl,hc 3 _ rfl,hc 4 _ rfl,hc 5 _ rfl,hc 6 _ rfl,hc 7 _ rfl,hc 8 _ rfl,y0,y1,y2,y3,y4,y5,y6,y7,y8⟩
          by_cases hq:zA7 Da k=zA7 Db i
          ·have hpp:¬dpS (recN Da n) (zA7 Db i):=fun h=>h.2 (HAT.out.1 hq)
           have HEQ:Hid (ds1 Ka (recL Kb m') m++ds2 Da (recN Db n') n++ds3 Db (recN Da n) i=ds1 Ka (recL Kb m') m++ds2 Da (recN Db n') n++ds3 Db (recN Da n) i'):=by show _=_;rw [HI'.out.2];show _=_++dfs _ _ _ (i+1);rw [zK7 hpp];rfl
           clear hpp
           have SS:Hid (∀w',Below w5.heap.size w5 w'→Calls Tryz.prog 78 #[.agg (cNd Da k),.agg (cNd Db i)] w' fun e w''=>e= .returned (.bool true)∧Below w'.heap.size w' w''):=fun w' hb=>by
              have h:=zN9 Da Db k i w' (HTA.out.below (nl _) (zA1 HM5.out.bel hb)) (HTB.out.below (nl _) (zA1 HM5.out.bel hb))
              rw [zA2 hq] at h
              exact h
           clear hq
           go_region_held3 (fun w'=>w'.cell? ⟨w.heap.size,0,none⟩=some (.slice (some ⟨ba,offa,none⟩) n c1)∧w'.cell? ⟨ba,offa+k*9,none⟩=some (.string (Da.Nm k))∧w'.cell? ⟨ba,offa+k*9+1,none⟩=some (.int .i64 (Da.Kd k))∧w'.cell? ⟨ba,offa+k*9+2,none⟩=some (.int .i64 (Da.Ax k))∧w'.cell? ⟨ba,offa+k*9+3,none⟩=some (.int .i64 (Da.Ay k))∧w'.cell? ⟨ba,offa+k*9+4,none⟩=some (.int .i64 (Da.Iv k))∧w'.cell? ⟨ba,offa+k*9+5,none⟩=some (.int .i64 (Da.Gd k))∧w'.cell? ⟨ba,offa+k*9+6,none⟩=some (.slice (Da.SA k) (Da.SN k) (Da.SC k))∧w'.cell? ⟨ba,offa+k*9+7,none⟩=some (.bool (Da.Pt k))∧w'.cell? ⟨ba,offa+k*9+8,none⟩=some (.int .i64 (Da.Rs k))∧w'.cell? ⟨G,0,none⟩=some (.string (Db.Nm i))∧w'.cell? ⟨G,1,none⟩=some (.int .i64 (Db.Kd i))∧w'.cell? ⟨G,2,none⟩=some (.int .i64 (Db.Ax i))∧w'.cell? ⟨G,3,none⟩=some (.int .i64 (Db.Ay i))∧w'.cell? ⟨G,4,none⟩=some (.int .i64 (Db.Iv i))∧w'.cell? ⟨G,5,none⟩=some (.int .i64 (Db.Gd i))∧w'.cell? ⟨G,6,none⟩=some (.slice (Db.SA i) (Db.SN i) (Db.SC i))∧w'.cell? ⟨G,7,none⟩=some (.bool (Db.Pt i))∧w'.cell? ⟨G,8,none⟩=some (.int .i64 (Db.Rs i))) (first
              |exact HS.out _ hq6
              |exact HS.out _ (bR w5.heap.size w5).drew) (first
              |(go_at_call 78
                with_reducible refine (SS.out _ ?_).mono ?_
                focus (exact (bR w5.heap.size w5).drew)
                rintro e w6 ⟨rfl,hb6⟩
                have hq6:Below w5.heap.size w5 w6:=(bR w5.heap.size w5).drew.trans hb6
                have HM6:=LH (HM5.out.call hq6)
                have HX6:=LH (HX5.out.call hq6)
                clear hb6))
           all_goals
              go_wp2_with fail
              go_roundw
              case rel=>exact ⟨i',M,A,cp,HI'.out.1,rfl,rfl,HM6.out.to HEQ.out⟩
              case measure=>exact HMS.out
          ·have hpp:dpS (recN Da n) (zA7 Db i):=⟨HHN.out,fun h=>hq (HAT.out.2 h)⟩
           have HEQ:Hid (ds1 Ka (recL Kb m') m++ds2 Da (recN Db n') n++ds3 Db (recN Da n) i++[chrR 2 Db i (dqL ⟨#[]⟩) 0]=ds1 Ka (recL Kb m') m++ds2 Da (recN Db n') n++ds3 Db (recN Da n) i'):=by show _=_;rw [HI'.out.2];show _=_++dfs _ _ _ (i+1);rw [zJ2 hpp,←List.append_assoc];rfl
           clear hpp
           have SS:Hid (∀w',Below w5.heap.size w5 w'→Calls Tryz.prog 78 #[.agg (cNd Da k),.agg (cNd Db i)] w' fun e w''=>e= .returned (.bool false)∧Below w'.heap.size w' w''):=fun w' hb=>by
              have h:=zN9 Da Db k i w' (HTA.out.below (nl _) (zA1 HM5.out.bel hb)) (HTB.out.below (nl _) (zA1 HM5.out.bel hb))
              rw [zA0 hq] at h
              exact h
           clear hq
           go_region_held3 (fun w'=>w'.cell? ⟨w.heap.size,0,none⟩=some (.slice (some ⟨ba,offa,none⟩) n c1)∧w'.cell? ⟨ba,offa+k*9,none⟩=some (.string (Da.Nm k))∧w'.cell? ⟨ba,offa+k*9+1,none⟩=some (.int .i64 (Da.Kd k))∧w'.cell? ⟨ba,offa+k*9+2,none⟩=some (.int .i64 (Da.Ax k))∧w'.cell? ⟨ba,offa+k*9+3,none⟩=some (.int .i64 (Da.Ay k))∧w'.cell? ⟨ba,offa+k*9+4,none⟩=some (.int .i64 (Da.Iv k))∧w'.cell? ⟨ba,offa+k*9+5,none⟩=some (.int .i64 (Da.Gd k))∧w'.cell? ⟨ba,offa+k*9+6,none⟩=some (.slice (Da.SA k) (Da.SN k) (Da.SC k))∧w'.cell? ⟨ba,offa+k*9+7,none⟩=some (.bool (Da.Pt k))∧w'.cell? ⟨ba,offa+k*9+8,none⟩=some (.int .i64 (Da.Rs k))∧w'.cell? ⟨G,0,none⟩=some (.string (Db.Nm i))∧w'.cell? ⟨G,1,none⟩=some (.int .i64 (Db.Kd i))∧w'.cell? ⟨G,2,none⟩=some (.int .i64 (Db.Ax i))∧w'.cell? ⟨G,3,none⟩=some (.int .i64 (Db.Ay i))∧w'.cell? ⟨G,4,none⟩=some (.int .i64 (Db.Iv i))∧w'.cell? ⟨G,5,none⟩=some (.int .i64 (Db.Gd i))∧w'.cell? ⟨G,6,none⟩=some (.slice (Db.SA i) (Db.SN i) (Db.SC i))∧w'.cell? ⟨G,7,none⟩=some (.bool (Db.Pt i))∧w'.cell? ⟨G,8,none⟩=some (.int .i64 (Db.Rs i))) (first
              |exact HS.out _ hq6
              |exact HS.out _ (bR w5.heap.size w5).drew) (first
              |(go_at_call 78
                with_reducible refine (SS.out _ ?_).mono ?_
                focus (exact (bR w5.heap.size w5).drew)
                rintro e w6 ⟨rfl,hb6⟩
                have hq6:Below w5.heap.size w5 w6:=(bR w5.heap.size w5).drew.trans hb6
                have HM6:=LH (HM5.out.call hq6)
                have HX6:=LH (HX5.out.call hq6)
                clear hb6))
           all_goals
              have hal8:Below w6.heap.size w6 (w6.alloc (Obj.cells (cNz 2 Db i) 34)):=(bR _ w6).alloc (nl _) _
              have HM8:=LH (HM6.out.call hal8)
              have HX8:Hid (Blk (w6.alloc (Obj.cells (cNz 2 Db i) 34)) w6.heap.size 34 (chm (chD 2 Db i (dqL ⟨#[]⟩) 0)).toArray):=by rw [zE7];exact Blk.new _ _ _
              have q5:=HX6.out.cell 0
              simp only [List.getElem?_toArray,List.getElem?_cons_zero,List.getElem?_cons_succ] at q5
              clear hal8
              go_wp2_with (first
               |(refine wpList_load_row rfl 30 (.tmp 14) rfl _ rfl _ _ (0,0) _ HX6.out Tryz.underlying30 rfl (by kernel_rfl) ?_)
               |(at_builtin
                 refine zB6 rfl (.tmp 97) (.tmp 100) rfl w0.heap.size (.slice A M.length cp) M rfl HM8.out.own w6.heap.size (chD 2 Db i (dqL ⟨#[]⟩) 0) rfl HX8.out HLL.out w0 HM8.out.bel (nl _) ?_
                 intro A9 c9 w9 ho9 hb9 _ _
                 have HM9:=LH (HM8.out.app ho9 hb9 HTB.out (zB9 _ _ _))
                 clear ho9 hb9))
              go_roundw
              case rel=>exact ⟨i',M++[chD 2 Db i (dqL ⟨#[]⟩) 0],A9,c9,HI'.out.1,rfl,by rw [List.length_append,List.length_singleton],HM9.out.to HEQ.out⟩
              case measure=>exact HMS.out
        have T0:decide ((i:Int)<(n':Int))=false:=by simp<;> omega
        have T0':decide (i<n')=false:=dF hlt
        have e:i=n':=by have:=Hi.out;omega
        have HM0:Hid (DfI w0 wr (.slice A M.length cp) M (ds1 Ka (recL Kb m') m++ds2 Da (recN Db n') n++ds3 Db (recN Da n) n')):=by have h:=HM.out;rw [e] at h;exact h
        obtain ⟨d0,d1_⟩:=blk2 (HDW.out.xa.call HM0.out.bel)
        obtain ⟨e0,e1_⟩:=blk2 (HDW.out.xb.call HM0.out.bel)
        clear hlt e HM Hi
        go_wp2_with fail
        go_loopw [8,106] (fun u v wr=>∃(i:Nat) (M:List Chm) (A:Option Addr) (c:Nat),Hid (i≤n')∧v= .int .i64 i∧u= .slice A M.length c∧Hid (DfI w0 wr (.slice A M.length c) M (ds1 Ka (recL Kb m') m++ds2 Da (recN Db n') n++ds3 Db (recN Da n) n'++ds4 Db (recN Da n) i))) (fun _ v _=>n' - (RowKit.intOf v).toNat)
        case atStart=>exact ⟨0,M,A,cp,Nat.zero_le _,rfl,rfl,HM0.out.to (by show _=_++[];rw [List.append_nil])⟩
        case round=>
         clear HM0 d0 d1_ e0 e1_
         rename World=>wr
         obtain ⟨i,M,A,cp,Hi,rfl,rfl,HM⟩:=hrel
         by_cases hlt:i<n'
         case pos=>
          have T0:decide ((i:Int)<(n':Int))=true:=by simp<;> omega
          have T0':decide (i<n')=true:=dU hlt
          obtain ⟨i',hi'⟩:∃z,z=i+1:=⟨_,rfl⟩
          have x0:IntKind.i64.wrap ((i:Int)+1)=(i':Int):=by have:=HLN.out;rw [IntKind.wrap_i64];omega
          have k0:(0:Int)≤(i:Int):=by omega
          have k1:(i:Int)<(n':Int):=by omega
          have HMS:Hid (n' - (RowKit.intOf (Value.int .i64 (i':Int))).toNat<n' - (RowKit.intOf (Value.int .i64 (i:Int))).toNat):=by show _<_;simp [RowKit.intOf];omega
          have HI':Hid (i'≤n'∧i'=i+1):=⟨by omega,hi'⟩
          have HLL:Hid (M.length≤20000):=HM.out.small (by (try simp only [List.length_append]);have:=HLN.out;have:=zJ1 Ka (recL Kb m') m;have:=zM3 Da (recN Db n') n;have:=zQ7 Db (recN Da n) n';have:=ds4_len Db (recN Da n) i;omega)
          obtain ⟨b,off,hA,hb,hC,htab⟩:=HDW.out.nb.at hlt
          subst hA
          have HC:Hid (wr.rangeAt b (off+i*9) [.string (Db.Nm i),.int .i64 (Db.Kd i),.int .i64 (Db.Ax i),.int .i64 (Db.Ay i),.int .i64 (Db.Iv i),.int .i64 (Db.Gd i),.slice (Db.SA i) (Db.SN i) (Db.SC i),.bool (Db.Pt i),.int .i64 (Db.Rs i)]):=hC.below HM.out.bel hb
          have HTB:=LH htab
          have SH:Hid (∀w',Below w0.heap.size w0 w'→Calls Tryz.prog 73 #[.agg #[.slice A1 n c1,.slice B1 m d1],.string (Db.Nm i)] w' fun e w''=>e= .returned (.int .i64 (fnd Da.Nm n (Db.Nm i)))∧Below w'.heap.size w' w''):=fun w' hb=>sc_dnode A1 B1 n c1 m d1 Da Ka _ w' (by have:=HLN.out;omega) (by have:=HLN.out;omega) (HDW.out.na.below (nl _) hb) (HDW.out.ka.below (nl _) hb)
          clear hi' hb hC htab
          go_upto_region 29 with (first
           |(refine wpList_load_mid rfl 30 (.tmp 108) rfl b (off+i*9) rfl _ _ HC.out Tryz.underlying30 rfl (by kernel_rfl) ?_)
           |(refine wpList_store_row rfl 30 (.tmp 17) (.tmp 109) rfl wr.heap.size (cNd Db i) rfl rfl _ _ (Blk.new wr _ _) (by kernel_rfl) rfl (by kernel_rfl) ?_))
          have hal:Below wr.heap.size wr ((wr.alloc (Obj.cells #[.string ⟨#[]⟩,.int .i64 0,.int .i64 0,.int .i64 0,.int .i64 0,.int .i64 0,.slice none 0 0,.bool false,.int .i64 0] 30)).setRow wr.heap.size (cNd Db i)):=zB4 ((bR _ wr).alloc (nl _) _) (Blk.new wr 30 _) (nl _)
          have HX:Hid (Blk ((wr.alloc (Obj.cells #[.string ⟨#[]⟩,.int .i64 0,.int .i64 0,.int .i64 0,.int .i64 0,.int .i64 0,.slice none 0 0,.bool false,.int .i64 0] 30)).setRow wr.heap.size (cNd Db i)) wr.heap.size 30 (cNd Db i)):=(Blk.new wr 30 _).setRow
          have HM4:=LH (HM.out.call hal)
          clear hal HM HC
          generalize (wr.alloc (Obj.cells #[.string ⟨#[]⟩,.int .i64 0,.int .i64 0,.int .i64 0,.int .i64 0,.int .i64 0,.slice none 0 0,.bool false,.int .i64 0] 30)).setRow wr.heap.size (cNd Db i)=w4 at HX HM4⊢
          generalize wr.heap.size=G at HX⊢
          obtain ⟨d0,d1_⟩:=blk2 (HDW.out.xa.call HM4.out.bel)
          obtain ⟨e0,e1_⟩:=blk2 (HDW.out.xb.call HM4.out.bel)
          have q0:=HX.out.cell 0
          simp only [List.getElem?_toArray,List.getElem?_cons_zero,List.getElem?_cons_succ] at q0
          rcases zC4 Da.Nm n (Db.Nm i) with ⟨hf,_⟩|⟨k,_,hf,_,_⟩
          ·rw [hf] at SH
           have hpp:dpD (recN Da n) (zA7 Db i):=zE2 hf
           have HEQ:Hid (ds1 Ka (recL Kb m') m++ds2 Da (recN Db n') n++ds3 Db (recN Da n) n'++ds4 Db (recN Da n) i++[chrR 1 Db i (dqL ⟨#[]⟩) 0]=ds1 Ka (recL Kb m') m++ds2 Da (recN Db n') n++ds3 Db (recN Da n) n'++ds4 Db (recN Da n) i'):=by show _=_;rw [HI'.out.2];show _=_++dfs _ _ _ (i+1);rw [zJ2 hpp,←List.append_assoc];rfl
           clear hf hpp
           go_wp2_with (first
                |(go_at_call 73
                  with_reducible refine (SH.out _ HM4.out.bel).mono ?_
                  rintro e w5 ⟨rfl,hb5⟩
                  have HM5:=LH (HM4.out.call hb5)
                  have HX5:=LH (HX.out.call hb5)
                  have hal8:Below w5.heap.size w5 (w5.alloc (Obj.cells (cNz 1 Db i) 34)):=(bR _ w5).alloc (nl _) _
                  have HM8:=LH (HM5.out.call hal8)
                  have HX8:Hid (Blk (w5.alloc (Obj.cells (cNz 1 Db i) 34)) w5.heap.size 34 (chm (chD 1 Db i (dqL ⟨#[]⟩) 0)).toArray):=by rw [zE7];exact Blk.new _ _ _
                  have q5:=HX5.out.cell 0
                  simp only [List.getElem?_toArray,List.getElem?_cons_zero,List.getElem?_cons_succ] at q5
                  clear hal8
                  clear hb5)
                |(refine wpList_load_row rfl 30 (.tmp 17) rfl _ rfl _ _ (0,0) _ HX5.out Tryz.underlying30 rfl (by kernel_rfl) ?_)
                |(at_builtin
                  refine zB6 rfl (.tmp 116) (.tmp 119) rfl w0.heap.size (.slice A M.length cp) M rfl HM8.out.own w5.heap.size (chD 1 Db i (dqL ⟨#[]⟩) 0) rfl HX8.out HLL.out w0 HM8.out.bel (nl _) ?_
                  intro A9 c9 w9 ho9 hb9 _ _
                  have HM9:=LH (HM8.out.app ho9 hb9 HTB.out (zB9 _ _ _))
                  clear ho9 hb9))
           go_roundw
           case rel=>exact ⟨i',M++[chD 1 Db i (dqL ⟨#[]⟩) 0],A9,c9,HI'.out.1,rfl,by rw [List.length_append,List.length_singleton],HM9.out.to HEQ.out⟩
           case measure=>exact HMS.out
          ·rw [hf] at SH
           have hpp:¬dpD (recN Da n) (zA7 Db i):=fun h=>h (zE1 hf)
           have tk:decide ((k:Int)<0)=false:=dF (by omega)
           have HEQ:Hid (ds1 Ka (recL Kb m') m++ds2 Da (recN Db n') n++ds3 Db (recN Da n) n'++ds4 Db (recN Da n) i=ds1 Ka (recL Kb m') m++ds2 Da (recN Db n') n++ds3 Db (recN Da n) n'++ds4 Db (recN Da n) i'):=by show _=_;rw [HI'.out.2];show _=_++dfs _ _ _ (i+1);rw [zK7 hpp];rfl
           clear hf hpp
           go_wp2_with (first
                |(go_at_call 73
                  with_reducible refine (SH.out _ HM4.out.bel).mono ?_
                  rintro e w5 ⟨rfl,hb5⟩
                  have HM5:=LH (HM4.out.call hb5)
                  have HX5:=LH (HX.out.call hb5)
                  skip
                  clear hb5))
           go_roundw
           case rel=>exact ⟨i',M,A,cp,HI'.out.1,rfl,rfl,HM5.out.to HEQ.out⟩
           case measure=>exact HMS.out
         have T0:decide ((i:Int)<(n':Int))=false:=by simp<;> omega
         have T0':decide (i<n')=false:=dF hlt
         have e:i=n':=by have:=Hi.out;omega
         have HM0:Hid (DfI w0 wr (.slice A M.length cp) M (ds1 Ka (recL Kb m') m++ds2 Da (recN Db n') n++ds3 Db (recN Da n) n'++ds4 Db (recN Da n) n')):=by have h:=HM.out;rw [e] at h;exact h
         obtain ⟨d0,d1_⟩:=blk2 (HDW.out.xa.call HM0.out.bel)
         obtain ⟨e0,e1_⟩:=blk2 (HDW.out.xb.call HM0.out.bel)
         clear hlt e HM Hi
         go_wp2_with fail
         go_loopw [8,125] (fun u v wr=>∃(i:Nat) (M:List Chm) (A:Option Addr) (c:Nat),Hid (i≤m')∧v= .int .i64 i∧u= .slice A M.length c∧Hid (DfI w0 wr (.slice A M.length c) M (ds1 Ka (recL Kb m') m++ds2 Da (recN Db n') n++ds3 Db (recN Da n) n'++ds4 Db (recN Da n) n'++ds5 Kb (recL Ka m) i))) (fun _ v _=>m' - (RowKit.intOf v).toNat)
         case atStart=>exact ⟨0,M,A,cp,Nat.zero_le _,rfl,rfl,HM0.out.to (by show _=_++[];rw [List.append_nil])⟩
         case round=>
          clear HM0 d0 d1_ e0 e1_
          rename World=>wr
          obtain ⟨i,M,A,cp,Hi,rfl,rfl,HM⟩:=hrel
          by_cases hlt:i<m'
          case pos=>
           have T0:decide ((i:Int)<(m':Int))=true:=by simp<;> omega
           have T0':decide (i<m')=true:=dU hlt
           obtain ⟨i',hi'⟩:∃z,z=i+1:=⟨_,rfl⟩
           have x0:IntKind.i64.wrap ((i:Int)+1)=(i':Int):=by have:=HLN.out;rw [IntKind.wrap_i64];omega
           have k0:(0:Int)≤(i:Int):=by omega
           have k1:(i:Int)<(m':Int):=by omega
           have HMS:Hid (m' - (RowKit.intOf (Value.int .i64 (i':Int))).toNat<m' - (RowKit.intOf (Value.int .i64 (i:Int))).toNat):=by show _<_;simp [RowKit.intOf];omega
           have HI':Hid (i'≤m'∧i'=i+1):=⟨by omega,hi'⟩
           have HLL:Hid (M.length≤20000):=HM.out.small (by (try simp only [List.length_append]);have:=HLN.out;have:=zJ1 Ka (recL Kb m') m;have:=zM3 Da (recN Db n') n;have:=zQ7 Db (recN Da n) n';have:=ds4_len Db (recN Da n) n';have:=ds5_len Kb (recL Ka m) i;omega)
           obtain ⟨b,off,hA,hb,hC,htab⟩:=HDW.out.kb.at hlt
           subst hA
           have HC:Hid (wr.rangeAt b (off+i*11) [.string (Kb.Nm i),.string (Kb.Fr i),.string (Kb.To i),.int .i64 (Kb.Kd i),.int .i64 (Kb.Ln i),.int .i64 (Kb.Up i),.int .i64 (Kb.Dn i),.string (Kb.Sc i),.int .i64 (Kb.Wd i),.int .i64 (Kb.Ht i),.slice (Kb.CA i) (Kb.CN i) (Kb.CC i)]):=hC.below HM.out.bel hb
           have HTB:=LH htab
           have SH:Hid (∀w',Below w0.heap.size w0 w'→Calls Tryz.prog 75 #[.agg #[.slice A1 n c1,.slice B1 m d1],.agg (cLk Kb i)] w' fun e w''=>e= .returned (.bool (boolOf (zA5 Kb i∈recL Ka m)))∧Below w'.heap.size w' w''):=fun w' hb=>sc_has A1 B1 n c1 m d1 Ka Kb i w' (by have:=HLN.out;omega) (HDW.out.ka.below (nl _) hb) (htab.below (nl _) hb)
           clear hi' hb hC htab
           go_upto_region 35 with (first
                |(refine wpList_load_mid rfl 32 (.tmp 127) rfl b (off+i*11) rfl _ _ HC.out Tryz.underlying32 rfl (by kernel_rfl) ?_)
                |(refine wpList_store_row rfl 32 (.tmp 19) (.tmp 128) rfl wr.heap.size (cLk Kb i) rfl rfl _ _ (Blk.new wr _ _) (by kernel_rfl) rfl (by kernel_rfl) ?_))
           have hal:Below wr.heap.size wr ((wr.alloc (Obj.cells #[.string ⟨#[]⟩,.string ⟨#[]⟩,.string ⟨#[]⟩,.int .i64 0,.int .i64 0,.int .i64 0,.int .i64 0,.string ⟨#[]⟩,.int .i64 0,.int .i64 0,.slice none 0 0] 32)).setRow wr.heap.size (cLk Kb i)):=zB4 ((bR _ wr).alloc (nl _) _) (Blk.new wr 32 _) (nl _)
           have HX:Hid (Blk ((wr.alloc (Obj.cells #[.string ⟨#[]⟩,.string ⟨#[]⟩,.string ⟨#[]⟩,.int .i64 0,.int .i64 0,.int .i64 0,.int .i64 0,.string ⟨#[]⟩,.int .i64 0,.int .i64 0,.slice none 0 0] 32)).setRow wr.heap.size (cLk Kb i)) wr.heap.size 32 (cLk Kb i)):=(Blk.new wr 32 _).setRow
           have HM4:=LH (HM.out.call hal)
           clear hal HM HC
           generalize (wr.alloc (Obj.cells #[.string ⟨#[]⟩,.string ⟨#[]⟩,.string ⟨#[]⟩,.int .i64 0,.int .i64 0,.int .i64 0,.int .i64 0,.string ⟨#[]⟩,.int .i64 0,.int .i64 0,.slice none 0 0] 32)).setRow wr.heap.size (cLk Kb i)=w4 at HX HM4⊢
           generalize wr.heap.size=G at HX⊢
           obtain ⟨d0,d1_⟩:=blk2 (HDW.out.xa.call HM4.out.bel)
           obtain ⟨e0,e1_⟩:=blk2 (HDW.out.xb.call HM4.out.bel)
           by_cases hp:zA5 Kb i∈recL Ka m
           ·rw [zA2 hp] at SH
            have hpp:¬dpL (recL Ka m) (zA5 Kb i):=fun h=>h hp
            have HEQ:Hid (ds1 Ka (recL Kb m') m++ds2 Da (recN Db n') n++ds3 Db (recN Da n) n'++ds4 Db (recN Da n) n'++ds5 Kb (recL Ka m) i=ds1 Ka (recL Kb m') m++ds2 Da (recN Db n') n++ds3 Db (recN Da n) n'++ds4 Db (recN Da n) n'++ds5 Kb (recL Ka m) i'):=by show _=_;rw [HI'.out.2];show _=_++dfs _ _ _ (i+1);rw [zK7 hpp];rfl
            clear hp hpp
            go_wp2_with (first
             |(refine wpList_load_row rfl 32 (.tmp 19) rfl _ rfl _ _ (0,0) _ HX.out Tryz.underlying32 rfl (by kernel_rfl) ?_)
             |(go_at_call 75
               with_reducible refine (SH.out _ HM4.out.bel).mono ?_
               rintro e w5 ⟨rfl,hb5⟩
               have HM5:=LH (HM4.out.call hb5)
               have HX5:=LH (HX.out.call hb5)
               skip
               clear hb5))
            go_roundw
            case rel=>exact ⟨i',M,A,cp,HI'.out.1,rfl,rfl,HM5.out.to HEQ.out⟩
            case measure=>exact HMS.out
           ·rw [zA0 hp] at SH
            have hpp:dpL (recL Ka m) (zA5 Kb i):=hp
            have HEQ:Hid (ds1 Ka (recL Kb m') m++ds2 Da (recN Db n') n++ds3 Db (recN Da n) n'++ds4 Db (recN Da n) n'++ds5 Kb (recL Ka m) i++[chrR 4 (dqN ⟨#[]⟩) 0 Kb i]=ds1 Ka (recL Kb m') m++ds2 Da (recN Db n') n++ds3 Db (recN Da n) n'++ds4 Db (recN Da n) n'++ds5 Kb (recL Ka m) i'):=by show _=_;rw [HI'.out.2];show _=_++dfs _ _ _ (i+1);rw [zJ2 hpp,←List.append_assoc];rfl
            clear hp hpp
            go_wp2_with (first
             |(refine wpList_load_row rfl 32 (.tmp 19) rfl _ rfl _ _ (0,0) _ HX.out Tryz.underlying32 rfl (by kernel_rfl) ?_)
             |(go_at_call 75
               with_reducible refine (SH.out _ HM4.out.bel).mono ?_
               rintro e w5 ⟨rfl,hb5⟩
               have HM5:=LH (HM4.out.call hb5)
               have HX5:=LH (HX.out.call hb5)
               have hal8:Below w5.heap.size w5 (w5.alloc (Obj.cells (cLz 4 Kb i) 34)):=(bR _ w5).alloc (nl _) _
               have HM8:=LH (HM5.out.call hal8)
               have HX8:Hid (Blk (w5.alloc (Obj.cells (cLz 4 Kb i) 34)) w5.heap.size 34 (chm (chD 4 (dqN ⟨#[]⟩) 0 Kb i)).toArray):=by rw [zE7];exact Blk.new _ _ _
               have q5:=HX5.out.cell 0
               simp only [List.getElem?_toArray,List.getElem?_cons_zero,List.getElem?_cons_succ] at q5
               clear hal8
               clear hb5)
             |(refine wpList_load_row rfl 32 (.tmp 19) rfl _ rfl _ _ (0,0) _ HX5.out Tryz.underlying32 rfl (by kernel_rfl) ?_)
             |(at_builtin
               refine zB6 rfl (.tmp 134) (.tmp 137) rfl w0.heap.size (.slice A M.length cp) M rfl HM8.out.own w5.heap.size (chD 4 (dqN ⟨#[]⟩) 0 Kb i) rfl HX8.out HLL.out w0 HM8.out.bel (nl _) ?_
               intro A9 c9 w9 ho9 hb9 _ _
               have HM9:=LH (HM8.out.app ho9 hb9 (zB9 _ _ _) HTB.out)
               clear ho9 hb9))
            go_roundw
            case rel=>exact ⟨i',M++[chD 4 (dqN ⟨#[]⟩) 0 Kb i],A9,c9,HI'.out.1,rfl,by rw [List.length_append,List.length_singleton],HM9.out.to HEQ.out⟩
            case measure=>exact HMS.out
          have T0:decide ((i:Int)<(m':Int))=false:=by simp<;> omega
          have T0':decide (i<m')=false:=dF hlt
          have e:i=m':=by have:=Hi.out;omega
          have HM0:Hid (DfI w0 wr (.slice A M.length cp) M (ds1 Ka (recL Kb m') m++ds2 Da (recN Db n') n++ds3 Db (recN Da n) n'++ds4 Db (recN Da n) n'++ds5 Kb (recL Ka m) m')):=by have h:=HM.out;rw [e] at h;exact h
          obtain ⟨d0,d1_⟩:=blk2 (HDW.out.xa.call HM0.out.bel)
          obtain ⟨e0,e1_⟩:=blk2 (HDW.out.xb.call HM0.out.bel)
          clear hlt e HM Hi
          go_wp2_with fail
          go_ret2
          have hp:=HM0.out.post HDW.out.bl
          rw [show ds1 Ka (recL Kb m') m++ds2 Da (recN Db n') n++ds3 Db (recN Da n) n'++ds4 Db (recN Da n) n'++ds5 Kb (recL Ka m) m'=dfF (recN Da n) (recL Ka m) (recN Db n') (recL Kb m') from pr_all Da Db Ka Kb n m n' m',HDW.out.ra,HDW.out.la,HDW.out.rb,HDW.out.lb] at hp
          exact ⟨_,rfl,hp⟩
end Go.Proofs.YtchakniaoeodmaaGreatDoor

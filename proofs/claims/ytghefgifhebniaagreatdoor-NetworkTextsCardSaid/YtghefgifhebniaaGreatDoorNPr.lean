/- network.Parse. -/
import Derived.Test.YtghefgifhebniaaGreatDoorMgJ
import Derived.Test.YtghefgifhebniaaGreatDoorNetV
import Derived.Test.YtghefgifhebniaaGreatDoorMgX
namespace Go.Proofs.YtghefgifhebniaaGreatDoor
open Go.RowKit
set_option linter.unusedVariables false
set_option linter.unusedSimpArgs false
theorem h63_p {n:Nat} (h:n≤300000):n+1≤maxLen:=by have:maxLen=9223372036854775807:=rfl;omega
theorem hby_p {n:Nat} (h:n≤300000):(n+1)*96≤140737488355328:=by omega
theorem hby_q {n:Nat} (h:n≤300000):(n+1)*136≤140737488355328:=by omega
def posN (k:Nat):Value:=.agg #[.int .i64 k,.int .i64 (if k=0 then 0 else 1)]
def PaPost (w:World) (s:ByteArray) (e:Ending) (w':World):Prop:=
 ∃(NM:List Ndm) (LM:List Lkm) (k:Nat) (er:Int) (NA LA:Option Addr) (cn cl:Nat),NtIs netV s.data.toList (ndx NM) (lkx LM) k er∧e= .returned (.tuple #[.agg #[.slice NA NM.length cn,.slice LA LM.length cl],posN k,.int .i64 er])∧NdIn w' NA NM.length (ndsM NM)∧LkIn w' LA LM.length (lksM LM)∧Below w.heap.size w w'
theorem infoNd:(Tryz.prog.info? 55).map (fun i=>(i.zero,i.size,i.bytes))=some (some (.agg #[.string ⟨#[]⟩,.int .i64 0,.int .i64 0,.int .i64 0,.int .i64 0,.int .i64 0,.slice none 0 0,.bool false,.int .i64 0]),9,96):=by kernel_rfl
theorem infoLk:(Tryz.prog.info? 64).map (fun i=>(i.zero,i.size,i.bytes))=some (some (.agg #[.string ⟨#[]⟩,.string ⟨#[]⟩,.string ⟨#[]⟩,.int .i64 0,.int .i64 0,.int .i64 0,.int .i64 0,.string ⟨#[]⟩,.int .i64 0,.int .i64 0,.slice none 0 0]),11,136):=by kernel_rfl
theorem PaI.none' {w W:World} {vn vl:Value} {NM:List Ndm} {LM:List Lkm} (h:PaI w NM LM vn vl W):NdIn W none 0 (ndsM [])∧LkIn W none 0 (lksM []):=⟨⟨by omega,.inl rfl⟩,⟨by omega,.inl rfl⟩⟩
theorem zH3 (k:Nat) (h:k≠0):posN k= .agg #[.int .i64 k,.int .i64 1]:=by unfold posN;rw [if_neg h]
set_option maxRecDepth 100000 in
set_option maxHeartbeats 8000000 in
theorem tnparse (s:ByteArray) (hs:s.size≤262300) (hc:∀N L,Runs [] [] (rln s.data.toList) N L→N.length≤2000∧L.length≤2000) (w:World) (hE:Env w):
 Calls Tryz.prog 45 #[.string s] w (PaPost w s):=by
 by_cases hbig:262144<s.size
 ·have T0:decide ((262144:Int)<(s.size:Int))=true:=dT (by omega)
  have T0':decide (262144<s.size)=true:=dT hbig
  have HIS:Hid (NtIs netV s.data.toList (ndx []) (lkx []) 0 4):=.full hbig
  clear hbig hs hc hE
  go_enter Tryz.func45,Tryz.ntmps45
  go_wp2_with fail
  refine bodyPost_ret (v:=.tuple #[.agg #[.slice none 0 0,.slice none 0 0],.agg #[.int .i64 0,.int .i64 0],.int .i64 4]) (by simp [results,Tryz.results45,go_sem]) rfl ⟨[],[],0,4,none,none,0,0,HIS.out,rfl,⟨by simp,.inl rfl⟩,⟨by simp,.inl rfl⟩,?_⟩
  exact bel
 have T0:decide ((262144:Int)<(s.size:Int))=false:=dF (by omega)
 have T0':decide (262144<s.size)=false:=dF hbig
 have HSZ:Hid (s.size≤262144):=by show _≤_;omega
 have HC:=LH hc
 have HE:=LH hE
 clear hs hc hE hbig
 obtain ⟨i0,hi0,hz0,hz1,hz2⟩:=zA8 infoNd
 have HI0:=LH hi0
 have HZ0:=LH hz0
 have HZ1:=LH hz1
 have HZ2:=LH hz2
 obtain ⟨j0,hj0,hy0,hy1,hy2⟩:=zA8 infoLk
 have LI0:=LH hj0
 have LZ0:=LH hy0
 have LZ1:=LH hy1
 have LZ2:=LH hy2
 clear hi0 hz0 hz1 hz2 hj0 hy0 hy1 hy2
 go_enter Tryz.func45,Tryz.ntmps45
 go_wp2_with fail
 have HPI:Hid (PaI w [] [] (.slice none 0 0) (.slice none 0 0) (((w.alloc (Obj.cells #[.slice none 0 0,.slice none 0 0] 25)).alloc (Obj.cells #[.int .i64 0,.int .i64 0] 73)).alloc (Obj.cells #[.slice none 0 0,.slice none 0 0] 25))):=by
  have b0:=(((Blk.new w 25 #[.slice none 0 0,.slice none 0 0]).alloc (Obj.cells #[.int .i64 0,.int .i64 0] 73)).alloc (Obj.cells #[.slice none 0 0,.slice none 0 0] 25))
  have b1:=((Blk.new (w.alloc (Obj.cells #[.slice none 0 0,.slice none 0 0] 25)) 73 #[.int .i64 0,.int .i64 0]).alloc (Obj.cells #[.slice none 0 0,.slice none 0 0] 25))
  have b2:=Blk.new ((w.alloc (Obj.cells #[.slice none 0 0,.slice none 0 0] 25)).alloc (Obj.cells #[.int .i64 0,.int .i64 0] 73)) 25 #[.slice none 0 0,.slice none 0 0]
  simp only [World.size_alloc] at b0 b1 b2
  refine ⟨b0,b1,b2,World.ownsRow_nil _ _ _ _,World.ownsRow_nil _ _ _ _,fun p hp=>absurd hp (by simp),fun p hp=>absurd hp (by simp),?_⟩
  exact (((bR _ w).alloc (nl _) _).alloc (by simp) _).alloc (by simp<;> omega) _
 generalize (((w.alloc (Obj.cells #[.slice none 0 0,.slice none 0 0] 25)).alloc (Obj.cells #[.int .i64 0,.int .i64 0] 73)).alloc (Obj.cells #[.slice none 0 0,.slice none 0 0] 25))=w3 at HPI⊢
 go_loopg [0,6] (s.size) (fun gm u x wr=>∃(t:ByteArray) (ls:List (List UInt8)) (NM:List Ndm) (LM:List Lkm) (vn vl:Value) (k:Nat),u= .string t∧x= .int .i64 k∧Hid (k=ls.length+1∧t.size≤gm∧t.size≤s.size∧rln s.data.toList=ls++rln t.data.toList∧Runs [] [] ls (ndx NM) (lkx LM))∧Hid (PaI w NM LM vn vl wr)∧Hid ((∀p,p∈NM→p.x.nm.size≤300000)∧∀p,p∈LM→p.x.nm.size≤300000∧p.x.fr.size≤300000∧p.x.tn.size≤300000∧p.x.sc.size≤300000∧p.x.T.length≤100))
 case atStart=>exact ⟨s,[],[],[],_,_,1,rfl,rfl,⟨rfl,nl _,nl _,rfl,.nil _ _⟩,HPI,⟨fun p hp=>absurd hp (by simp),fun p hp=>absurd hp (by simp)⟩⟩
 case round=>
  clear HPI
  obtain ⟨t,ls,NM,LM,vn,vl,k,rfl,rfl,HK,HP,HSS⟩:=hrel
  have HKB:Hid (k≤262145):=by
   show _≤_
   have h2:=congrArg List.length HK.out.2.2.2.1
   have h3:=rln_len s.data.toList
   rw [List.length_append] at h2
   rw [zD8] at h3
   have h4:=HSZ.out
   have h5:=HK.out.1
   omega
  have HSZ':Hid (s.data.toList.length≤262144):=by show _≤_;rw [zD8];exact HSZ.out
  by_cases hnil:t.data.toList=[]
  ·have ht:=bytes_nil hnil
   subst ht
   have HR:Hid (Runs [] [] (rln s.data.toList) (ndx NM) (lkx LM)):=by
        show Runs _ _ _ _ _
        have h1:=HK.out.2.2.2.1
        have h2:=HK.out.2.2.2.2
        rw [h1]
        show Runs [] [] (ls++rln []) _ _
        rw [show rln []=[] from rfl,List.append_nil]
        exact h2
   obtain ⟨hn2,hm2⟩:=HC.out _ _ HR.out
   have hn3:NM.length≤2000:=by unfold ndx at hn2;rwa [List.length_map] at hn2
   have hm3:LM.length≤2000:=by unfold lkx at hm2;rwa [List.length_map] at hm2
   obtain ⟨An,cn,hvn⟩:=zE5 HP.out.on
   obtain ⟨Al,cl,hvl⟩:=zE5 HP.out.ol
   subst hvn hvl
   obtain ⟨_,hND⟩:=HP.out.nodes (by omega)
   obtain ⟨_,hLK⟩:=HP.out.links (by omega)
   obtain ⟨y0,y1⟩:=zA3 HP.out.nt
   have hgetn:∀i,i<NM.length→(ndx NM).getD i zNd=(NM.getD i ⟨zNd,none,0⟩).x:=fun i hi=>by unfold ndx;simp [List.getD,hi]
   have hgetl:∀i,i<LM.length→(lkx LM).getD i zLk=(LM.getD i ⟨zLk,none,0⟩).x:=fun i hi=>by unfold lkx;simp [List.getD,hi]
   have hmemn:∀i,i<NM.length→NM.getD i ⟨zNd,none,0⟩∈NM:=fun i hi=>List.mem_of_getElem? (i:=i) (by simp [List.getD,hi])
   have hmeml:∀i,i<LM.length→LM.getD i ⟨zLk,none,0⟩∈LM:=fun i hi=>List.mem_of_getElem? (i:=i) (by simp [List.getD,hi])
   have hmx:maxLen=9223372036854775807:=rfl
   have hz:NetSz (ndsM NM) NM.length (lksM LM) LM.length:=⟨hn3,hm3,fun i hi=>by
    show ((ndx NM).getD i zNd).nm.size≤_
    rw [hgetn i hi];have:=HSS.out.1 _ (hmemn i hi);omega,fun i hi=>by
    show ((lkx LM).getD i zLk).nm.size≤_
    rw [hgetl i hi];have:=(HSS.out.2 _ (hmeml i hi)).1;omega,fun i hi=>by
    show ((lkx LM).getD i zLk).fr.size≤_
    rw [hgetl i hi];have:=(HSS.out.2 _ (hmeml i hi)).2.1;omega,fun i hi=>by
    show ((lkx LM).getD i zLk).tn.size≤_
    rw [hgetl i hi];have:=(HSS.out.2 _ (hmeml i hi)).2.2.1;omega,fun i hi=>by
    show ((lkx LM).getD i zLk).sc.size≤_
    rw [hgetl i hi];have:=(HSS.out.2 _ (hmeml i hi)).2.2.2.1;omega,fun i hi=>by
    show ((lkx LM).getD i zLk).T.length≤_
    rw [hgetl i hi];have:=(HSS.out.2 _ (hmeml i hi)).2.2.2.2;omega⟩
   have SV:=LH (nvalid An Al NM.length cn LM.length cl (ndsM NM) (lksM LM) hz wr hND hLK)
   have HVE:Hid (netP (ndsM NM) NM.length (lksM LM) LM.length↔netV (ndx NM) (lkx LM)):=by
        have h1:(ndx NM).length=NM.length:=by unfold ndx;simp
        have h2:(lkx LM).length=LM.length:=by unfold lkx;simp
        have h3:=netV_iff (ndx NM) (lkx LM) (fun k=>(NM.getD k ⟨zNd,none,0⟩).A) (fun k=>(LM.getD k ⟨zLk,none,0⟩).A) (fun k=>(NM.getD k ⟨zNd,none,0⟩).c) (fun k=>(LM.getD k ⟨zLk,none,0⟩).c)
        rw [h1,h2] at h3
        exact h3
   obtain ⟨NN,hNN⟩:∃NN,NM.length=NN:=⟨_,rfl⟩
   obtain ⟨LL,hLL⟩:∃LL,LM.length=LL:=⟨_,rfl⟩
   have HNN:=LH hNN
   have HLL:=LH hLL
   rw [hNN,hLL] at SV
   rw [hNN] at y0
   rw [hLL] at y1
   have e0:(⟨#[]⟩:ByteArray).toList=[]:=by rw [zD0]
   clear hnil hn2 hm2 hn3 hm3 hND hLK hgetn hgetl hmemn hmeml hz hmx hNN hLL
   by_cases hv:netP (ndsM NM) NM.length (lksM LM) LM.length
   ·rw [HNN.out,HLL.out] at hv
    rw [zA2 hv] at SV
    have HV:=LH hv
    clear hv
    go_wp2_with (first
     |(go_at_call 36
       with_reducible refine SV.out.mono ?_
       rintro e w5 ⟨rfl,hb5⟩
       have HP5:=LH (HP.out.call hb5)
       obtain ⟨y0,y1⟩:=zA3 HP5.out.nt
       obtain ⟨a0,a1⟩:=zA3 HP5.out.r0
       obtain ⟨p0,p1⟩:=zA3 HP5.out.r1
       have fa:=fun n=>HP5.out.r0.frozen n
       have fp:=fun n=>HP5.out.r1.frozen n
       rw [HNN.out] at y0
       rw [HLL.out] at y1
       clear hb5))
    obtain ⟨hb0,hb1,hbl,hon,hol,htn,htl⟩:=HP5.out.out (.slice An NN cn) (.slice Al LL cl) (.int .i64 0) (.int .i64 0)
    obtain ⟨s0,s1⟩:=zA3 hb0
    obtain ⟨s2,s3⟩:=zA3 hb1
    have HX:Hid (NdIn (st4 w5 w.heap.size (.slice An NN cn) (.slice Al LL cl) (.int .i64 0) (.int .i64 0)) An NM.length (ndsM NM)):=(nodes_of hon htn (by have:=(HC.out _ _ HR.out).1;unfold ndx at this;rw [List.length_map] at this;omega)).2
    have HY:Hid (LkIn (st4 w5 w.heap.size (.slice An NN cn) (.slice Al LL cl) (.int .i64 0) (.int .i64 0)) Al LM.length (lksM LM)):=(links_of hol htl (by have:=(HC.out _ _ HR.out).2;unfold lkx at this;rw [List.length_map] at this;omega)).2
    have HBL:=LH hbl
    clear hb0 hb1 hbl hon hol htn htl
    unfold st4 at s0 s1 s2 s3
    refine bodyPost_ret (v:=.tuple #[.agg #[.slice An NN cn,.slice Al LL cl],.agg #[.int .i64 0,.int .i64 0],.int .i64 0]) (by simp [results,Tryz.results45,go_sem,s0,s1,s2,s3]) rfl ⟨NM,LM,0,0,An,Al,cn,cl,.ok _ _ HSZ.out HR.out (HVE.out.1 (by rw [HNN.out,HLL.out];exact HV.out)),by rw [HNN.out,HLL.out];rfl,HX.out,HY.out,HBL.out⟩
   ·rw [HNN.out,HLL.out] at hv
    rw [zA0 hv] at SV
    have HV:=LH hv
    clear hv
    go_wp2_with (first
     |(go_at_call 36
       with_reducible refine SV.out.mono ?_
       rintro e w5 ⟨rfl,hb5⟩
       have HP5:=LH (HP.out.call hb5)
       obtain ⟨y0,y1⟩:=zA3 HP5.out.nt
       obtain ⟨a0,a1⟩:=zA3 HP5.out.r0
       obtain ⟨p0,p1⟩:=zA3 HP5.out.r1
       have fa:=fun n=>HP5.out.r0.frozen n
       have fp:=fun n=>HP5.out.r1.frozen n
       rw [HNN.out] at y0
       rw [HLL.out] at y1
       clear hb5))
    obtain ⟨hb0,hb1,hbl,_⟩:=HP5.out.out (.slice none 0 0) (.slice none 0 0) (.int .i64 0) (.int .i64 0)
    obtain ⟨s0,s1⟩:=zA3 hb0
    obtain ⟨s2,s3⟩:=zA3 hb1
    have HBL:=LH hbl
    clear hb0 hb1 hbl
    unfold st4 at s0 s1 s2 s3
    refine bodyPost_ret (v:=.tuple #[.agg #[.slice none 0 0,.slice none 0 0],.agg #[.int .i64 0,.int .i64 0],.int .i64 1]) (by simp [results,Tryz.results45,go_sem,s0,s1,s2,s3]) rfl ⟨[],[],0,1,none,none,0,0,.arg _ _ HSZ.out HR.out (fun h=>HV.out (by have:=HVE.out.2 h;rw [HNN.out,HLL.out] at this;exact this)),rfl,⟨by simp,.inl rfl⟩,⟨by simp,.inl rfl⟩,HBL.out⟩
  ·have hnl:¬t.toList=[]:=by rw [zD0];exact hnil
   have t1:(t.toList==[])=false:=by simpa using hnl
   have hts:t.size≤262144:=by have:=HK.out.2.2.1;have:=HSZ.out;omega
   have SC:=LH fun w=>tcutc t (by omega) 10 w
   have hcz:=cut_size t 10
   have hcl:=cut_line t hnil
   have hpos:0<t.size:=by
        have:=List.length_pos_iff.2 hnil
        rwa [zD8] at this
   generalize hca:cutA t 10=l at SC hcz hcl
   generalize hcb:cutB t 10=rest at SC hcz hcl
   generalize hcf:cutF t 10=ended at SC hcl
   have SS:=LH fun w=>tsplitw l (by omega) w
   have h10:(10:UInt8)∉l.data.toList:=by
        rcases hcl with ⟨_,_,a,_⟩|⟨_,a,_,b,_⟩
        ·exact a
        ·rw [a];exact b
   have hrest:rest.size<t.size:=by
        rcases hcl with ⟨_,a,_,_⟩|⟨_,_,a,_,_⟩
        ·have:=congrArg List.length a
         rw [List.length_append,List.length_cons,zD8,zD8,zD8] at this
         omega
        ·rw [a];exact hpos
   have HCL:Hid (rln t.data.toList=zI6 l.data.toList ended::(if ended then rln rest.data.toList else [])∧(ended=false→rest=⟨#[]⟩)):=by
        rcases hcl with ⟨a,_,_,b⟩|⟨a,b,c,_,d⟩
        ·subst a
         exact ⟨b,fun h=>by cases h⟩
        ·subst a
         refine ⟨?_,fun _=>c⟩
         rw [d,b];rfl
   have H10:=LH h10
   have HRS:Hid (rest.size<t.size∧l.size≤262144):=⟨hrest,by omega⟩
   have hwl:(zC2 l).length≤300001:=by rw [words_cnt];have:=List.count_le_length (a:=(32:UInt8)) (l:=l.data.toList);unfold Lib.countByte;rw [zD8] at this;omega
   obtain ⟨NW,hNW⟩:∃NW,(zC2 l).length=NW:=⟨_,rfl⟩
   rw [hNW] at SS
   have HNW:Hid (NW=(zC2 l).length∧NW≤300001):=⟨hNW.symm,by omega⟩
   clear hnil hts hcz hcl hpos hca hcb hcf h10 hrest hwl hNW hnl
   go_upto_region 10 with (first
        |(go_at_call 76
          with_reducible refine (SC.out _).mono ?_
          rintro e w4 ⟨rfl,hb4⟩
          have HB4:=LH hb4
          clear hb4)
        |(go_at_call 77
          with_reducible refine (SS.out _).mono ?_
          rintro e w5 ⟨rfl,hst5,hb5⟩
          have HST5:=LH hst5
          have HB5:=LH (zA1 HB4.out hb5)
          have HB5':=LH hb5
          clear hst5 hb5))
   have hal:Below w5.heap.size w5 (w5.alloc (Obj.cells #[.slice (some ⟨w4.heap.size,0,none⟩) NW NW,.bool ended] 103)):=(bR _ w5).alloc (nl _) _
   have HB6:=LH (zA1 HB5.out hal)
   have HRD6:Hid (RdAt (w5.alloc (Obj.cells #[.slice (some ⟨w4.heap.size,0,none⟩) NW NW,.bool ended] 103)) w5.heap.size (zC2 l) ended):=by
        refine ⟨_,Blk.new _ _ _,some ⟨w4.heap.size,0,none⟩,NW,by rw [HNW.out.1],by rw [HNW.out.1];exact nl _,by rw [←HNW.out.1];exact HNW.out.2,?_,.inr ⟨w4.heap.size,0,rfl,?_,?_,fun k hk=>?_⟩⟩
        ·rw [zJ0,joinL_wds,zD8];have:=HRS.out.2;omega
        ·have:=HST5.out.1;simp;omega
        ·exact HST5.out.1
        ·exact (hal.cell (p:=⟨w4.heap.size,0+k,none⟩) HST5.out.1).trans (HST5.out.2 k (by rw [HNW.out.1];exact hk))
   have HGE:Hid (wr.heap.size≤w5.heap.size):=HB5.out.size
   clear hal HST5 HB4 HB5 HB5' SC SS
   generalize w5.alloc (Obj.cells #[.slice (some ⟨w4.heap.size,0,none⟩) NW NW,.bool ended] 103)=w6 at HB6 HRD6⊢
   generalize w5.heap.size=g at HRD6 HGE⊢
   have SW:=LH (rdword g (zC2 l) ended w6 HRD6.out)
   go_upto_region 11 with (first
        |(go_at_call 78
          with_reducible refine SW.out.mono ?_
          rintro e w7 ⟨kb,W1,o1,rfl,hwr,hsz,hrd,hg7⟩
          have HWR:=LH hwr
          have HSW:=LH hsz
          have HRD7:=LH hrd
          have HB7:Hid (Below wr.heap.size wr w7):=zB9 HB6.out HB6.out.size hg7 (fun r e=>by have:=Option.some.inj e;have:=HGE.out;omega)
          clear hwr hsz hrd hg7))
   have HP7:=LH (HP.out.call HB7.out)
   have HEE:Hid (∀w',w7.grownBy w' (some g)→Env w'):=fun w' hg=>HE.out.below (zB9 HP7.out.bl HP7.out.bl.size hg (fun r e=>by have:=Option.some.inj e;have:=HGE.out;have:=HP.out.bl.size;omega))
   have HG3:Hid (w.heap.size+3≤g):=nT HP.out.size HGE.out
   have HOLD:=LH (HP.out.old HGE.out)
   have HWOK:Hid (∀b,b∈W1→(32:UInt8)∉b.data.toList∧(10:UInt8)∉b.data.toList):=fun b hb=>words_ok (HWR.out.sub b hb) H10.out
   clear SW HB6 HRD6
   go_upto_block 2 with fail
   go_cut [] from 36 to 77 (fun wx=>∃(NM':List Ndm) (LM':List Lkm) (vn' vl':Value) (A2:Option Addr) (N2 c2:Nat) (bb:Bool),Hid (PaI w NM' LM' vn' vl' wx)∧Hid (Blk wx g 103 #[.slice A2 N2 c2,.bool bb])∧Hid (¬(bb=true∧N2=0)→NtIs netV s.data.toList [] [] k 7)∧Hid (bb=true→N2=0→((∀p,p∈NM'→p.x.nm.size≤300000)∧∀p,p∈LM'→p.x.nm.size≤300000∧p.x.fr.size≤300000∧p.x.tn.size≤300000∧p.x.sc.size≤300000∧p.x.T.length≤100)∧rln s.data.toList=(ls++[zI6 l.data.toList ended])++rln rest.data.toList∧Runs [] [] (ls++[zI6 l.data.toList ended]) (ndx NM') (lkx LM')))
   case first=>
        by_cases hnk:∃kd:Int,(kd=1∧kb=⟨#[109,97,110,104,111,108,101]⟩)∨(kd=2∧kb=⟨#[116,97,110,107]⟩)∨(kd=3∧kb=⟨#[111,117,116,102,97,108,108]⟩)
        ·obtain ⟨kd,hkd⟩:=hnk
         have HWL:Hid (zC2 l=kb::W1∧o1=ended):=by
          rcases HWR.out with ⟨a,b,c⟩|⟨a,b,c⟩
          ·exact ⟨a,c⟩
          ·exfalso
           rcases HSW.out with hq |hq
           ·have:=a _ _ hq
            rcases hkd with ⟨_,h⟩|⟨_,h⟩|⟨_,h⟩<;> rw [h] at this<;> cases this
           ·rcases hkd with ⟨_,h⟩|⟨_,h⟩|⟨_,h⟩<;> rw [h] at hq<;> cases hq
         have HKW:Hid (∀x:Ndr,x.kd=kd→wds l.data.toList=ndK x::lm W1):=fun x hx=>by
          rw [←zJ0,HWL.out.1,zG2]
          congr 1
          unfold ndK
          rw [hx]
          rcases hkd with ⟨h1,h⟩|⟨h1,h⟩|⟨h1,h⟩<;> subst h1<;> rw [h]<;> rfl
         have SN:Hid (Calls Tryz.prog 79 #[.pointer (some ⟨g,0,none⟩),.string kb] w7.drew (fun e w8=>∃(nm:ByteArray) (kx ax ay iv gd:Int) (T:List (Int×Int)) (pt:Bool) (rs:Int) (A:Option Addr) (c:Nat) (W':List ByteArray) (o':Bool) (A2:Option Addr) (c2:Nat),e= .returned (.agg #[.string nm,.int .i64 kx,.int .i64 ax,.int .i64 ay,.int .i64 iv,.int .i64 gd,.slice A T.length c,.bool pt,.int .i64 rs])∧NodeR kd W1 o1 ⟨nm,kx,ax,ay,iv,gd,T,pt,rs⟩ W' o'∧TabIn w8 A T.length (kX T) (kY T)∧Blk w8 g 103 #[.slice A2 W'.length c2,.bool o']∧w7.grownBy w8 (some g)∧∀b off,A=some ⟨b,off,none⟩→w7.heap.size≤b)):=by
          have h1:=rdnode kd kb hkd g W1 o1 w7.drew HRD7.out (fun b hb=>(HWOK.out b hb).1) (fun w' hg=>HEE.out w' ⟨hg.os,hg.tape,hg.output,hg.size,hg.block⟩)
          refine h1.mono ?_
          rintro e w8 ⟨⟨nm,kx,ax,ay,iv,gd,T,pt,rs⟩,A,c,W',o',e1,e2,e3,⟨v2,e4,A2,c2,rfl,_⟩,e5,e6⟩
          exact ⟨nm,kx,ax,ay,iv,gd,T,pt,rs,A,c,W',o',A2,c2,e1,e2,e3,e4,⟨e5.os,e5.tape,e5.output,e5.size,e5.block⟩,e6⟩
         obtain ⟨An,cn,hvn⟩:=zE5 HP7.out.on
         obtain ⟨Al,cl,hvl⟩:=zE5 HP7.out.ol
         subst hvn hvl
         obtain ⟨NN,hNN⟩:∃NN,NM.length=NN:=⟨_,rfl⟩
         obtain ⟨LL,hLL⟩:∃LL,LM.length=LL:=⟨_,rfl⟩
         rw [hNN,hLL] at HP7 HP
         have HNN:=LH hNN
         have HLL:=LH hLL
         obtain ⟨y0,y1⟩:=zA3 HP7.out.nt
         have HNB:Hid (NN≤300000):=by
          show _≤_
          have h1:=HK.out.2.2.2.2.len
          have h4:=HKB.out
          have h5:=HK.out.1
          unfold ndx at h1
          rw [List.length_map] at h1
          simp at h1
          omega
         clear hNN hLL
         rcases hkd with ⟨hk1,hk2⟩|⟨hk1,hk2⟩|⟨hk1,hk2⟩
         all_goals
          subst hk1 hk2
          go_upto_region 16 with fail
          have c_a:=y0
          go_region_law (first
           |(go_simp
             go_at_call 79
             with_reducible refine SN.out.mono ?_
             rintro e w8 ⟨nm,kx,ax,ay,iv,gd,T,pt,rs,AT,cT,W2,o2,A2,c2,rfl,hnr,htb,hrb,hg8,hta⟩
             have HNR:=LH hnr
             have HTB:=LH htb
             have HTA:=LH hta
             have HRB:=LH hrb
             have HB8:Hid (Below wr.heap.size wr w8):=zB9 HB7.out HB7.out.size hg8 (fun r e=>by have:=Option.some.inj e;have:=HGE.out;omega)
             have HP8:=LH (HP.out.call HB8.out)
             have HON8:Hid (w8.ownsRow (w.heap.size+3) 55 9 (.slice An NN cn) NN (nc NM)):=by have:=HP8.out.on;rwa [HNN.out] at this
             have c_b:=HP8.out.nt.cell 0
             have c_c:=(HP8.out.nt.alloc (Obj.cells #[.string nm,.int .i64 kx,.int .i64 ax,.int .i64 ay,.int .i64 iv,.int .i64 gd,.slice AT T.length cT,.bool pt,.int .i64 rs] 55)).cell 0
             simp only [List.getElem?_toArray,List.getElem?_cons_zero] at c_b c_c
             clear hnr htb hta hrb hg8)
           |((refine step_append_lies _ (by rfl) _ _ _ (by rfl) (w.heap.size+3) 55 i0 _ 9 96 Tryz.underlying22 HI0.out HZ0.out HZ1.out HZ2.out rfl (by omega) (.slice An NN cn) NN (nc NM) (by rfl) (HON8.out.alloc _) ⟨w8.heap.size,0,none⟩ 1 1 [.string nm,.int .i64 kx,.int .i64 ax,.int .i64 ay,.int .i64 iv,.int .i64 gd,.slice AT T.length cT,.bool pt,.int .i64 rs] (by rfl) (by rfl) (World.news_of_block (cs:=#[.string nm,.int .i64 kx,.int .i64 ax,.int .i64 ay,.int .i64 iv,.int .i64 gd,.slice AT T.length cT,.bool pt,.int .i64 rs]) (t:=55) (fr:=(0,0)) (heap_alloc_new w8 _)) (by simp [Value.oneCell']) (by omega) (h63_p HNB.out) (hby_p HNB.out) (zA9 HP8.out.size _) (w8.heap.size+1) (by simp) ?_
              intro gg capg wA hownA hgrowA hatA hltA
              have hat9:(Value.slice (some ⟨gg,0,none⟩) (NN+1) capg).ownBlock=(Value.slice An NN cn).ownBlock∨(Value.slice (some ⟨gg,0,none⟩) (NN+1) capg).ownBlock=some (w8.heap.size+1):=by
               rcases hatA with h |h
               ·exact .inl (by rw [h];rfl)
               ·exact .inr (by rw [h];simp [Value.ownBlock])
              have HGR:=LH hgrowA
              have HOW:=LH hownA
              have HAT:=LH hat9
              have q1:=(HP8.out.keep (i:=0) (.inl rfl) hgrowA hat9 (B0:=0)).1 (j:=w.heap.size+1+1) (by omega) HP8.out.nt
              have yf:=q1.frozen 0
              have yc:=(zA3 q1).1
              clear hownA hgrowA hatA hltA hat9 q1)))
         all_goals
          have HP9:=LH (HP8.out.nodeApp (p:=⟨⟨nm,kx,ax,ay,iv,gd,T,pt,rs⟩,AT,cT⟩) HTB.out (fun _ b off e=>⟨by have:=HTA.out b off e;have:=HP7.out.size;omega,fun e2=>by have:=HTA.out b off e;have:=(HP7.out.on.lt b e2.symm).2;omega,fun e2=>by have:=HTA.out b off e;have:=(HP7.out.ol.lt b e2.symm).2;omega⟩) (by rw [HNN.out];exact HOW.out) HGR.out HAT.out)
          have HRB9:Hid (Blk (wA.setCell ⟨w.heap.size+1+1,0,none⟩ (.slice (some ⟨gg,0,none⟩) (NN+1) capg)) g 103 #[.slice A2 W2.length c2,.bool o2]):=((HRB.out.alloc _).grown HGR.out (fun e=>zE2 HON8.out HRB.out (by decide) e.symm)).far (by show g≠w.heap.size+1+1;have:=HG3.out;omega) _
          obtain ⟨N2,hN2⟩:∃N2,W2.length=N2:=⟨_,rfl⟩
          rw [hN2] at HRB9
          have HN2:=LH hN2
          obtain ⟨_,z1⟩:=zA3 HP9.out.nt
          obtain ⟨g0,g1⟩:=zA3 HRB9.out
          have gf:=HRB9.out.frozen 1
          have HT:=LH (nd_turn (LM:=LM) HSZ'.out HK.out.1 HK.out.2.2.2.1 HK.out.2.2.2.2 HCL.out.1 HNR.out HWL.out.2 (HKW.out _ (by obtain ⟨_,_,_,_,_,_,_,_,_,_,_,_,_,_,_,hk,_⟩:=HNR.out;exact hk)) HWOK.out H10.out)
          have HOLD9:Hid ((∀q,q∈NM++[⟨⟨nm,kx,ax,ay,iv,gd,T,pt,rs⟩,AT,cT⟩]→q.x.T.length≠0→∀b off,q.A=some ⟨b,off,none⟩→b≠g)∧∀q,q∈LM→q.x.T.length≠0→∀b off,q.A=some ⟨b,off,none⟩→b≠g):=by
           refine ⟨fun q hq=>?_,HOLD.out.2⟩
           rcases List.mem_append.1 hq with hq |hq
           ·exact HOLD.out.1 q hq
           ·rw [List.mem_singleton.1 hq]
            intro _ b off e
            have h1:=HTA.out b off e
            have h2:=HRD7.out.lt
            omega
          clear hN2 HGR HOW HAT yf yc c_a c_b c_c HP8 HON8 HRB HB8 HTB y0 y1 HP7
          generalize wA.setCell ⟨w.heap.size+1+1,0,none⟩ (.slice (some ⟨gg,0,none⟩) (NN+1) capg)=w9 at HP9 HRB9 z1 g0 g1 gf⊢
          rcases hb2:o2 with _ |_
          ·subst hb2
           go_wp2_with fail
           go_meet
           case rel=>exact ⟨_,_,_,_,A2,N2,c2,false,HP9.out.setg HRB9.out HG3.out HOLD9.out.1 HOLD9.out.2 (i:=1) (.bool false),HRB9.out.set_ 1 (.bool false),fun _=>HT.out.1 (by rintro ⟨h,_⟩;cases h),fun h=>by cases h⟩
          ·subst hb2
           by_cases hLz:LL=0
           ·subst hLz
            go_wp2_with fail
            go_meet
            case rel=>
                 refine ⟨_,_,_,_,A2,N2,c2,true,HP9.out.setg HRB9.out HG3.out HOLD9.out.1 HOLD9.out.2 (i:=1) (.bool true),HRB9.out.set_ 1 (.bool true),fun h=>HT.out.1 (fun h2=>h ⟨rfl,by rw [←HN2.out,h2.2.2];rfl⟩),fun _ h2=>?_⟩
                 obtain ⟨q1,q2,q3,q4⟩:=HT.out.2 (by first |exact rfl |trivial) HLL.out (List.eq_nil_of_length_eq_zero (HN2.out.trans h2))
                 refine ⟨⟨fun p hp=>?_,HSS.out.2⟩,q2,q4 _ _⟩
                 rcases List.mem_append.1 hp with hp |hp
                 ·exact HSS.out.1 p hp
                 ·rw [List.mem_singleton.1 hp]
                  rw [zD8] at q1
                  have h2:=HRS.out.2
                  exact nT q1 (by omega)
           ·have T0:((LL:Int)==0)=false:=by simp;omega
            have T0':(LL==0)=false:=by simp;omega
            have T1:decide ((LL:Int)=0)=false:=dF (by omega)
            have T1':decide (LL=0)=false:=dF hLz
            have HLZ:=LH hLz
            clear hLz
            go_wp2_with fail
            go_meet
            case rel=>exact ⟨_,_,_,_,A2,N2,c2,false,HP9.out.setg HRB9.out HG3.out HOLD9.out.1 HOLD9.out.2 (i:=1) (.bool false),HRB9.out.set_ 1 (.bool false),fun _=>HT.out.1 (by rintro ⟨_,h,_⟩;exact HLZ.out (by rw [←HLL.out];exact h)),fun h=>by cases h⟩
        ·by_cases hlk:∃kd:Int,(kd=1∧kb=⟨#[112,105,112,101]⟩)∨(kd=2∧kb=⟨#[119,101,105,114]⟩)∨(kd=3∧kb=⟨#[103,97,116,101]⟩)∨(kd=4∧kb=⟨#[112,117,109,112]⟩)
         ·clear hnk
          obtain ⟨kd,hkd⟩:=hlk
          have HWL:Hid (zC2 l=kb::W1∧o1=ended):=by
           rcases HWR.out with ⟨a,b,c⟩|⟨a,b,c⟩
           ·exact ⟨a,c⟩
           ·exfalso
            rcases HSW.out with hq |hq
            ·have:=a _ _ hq
             rcases hkd with ⟨_,h⟩|⟨_,h⟩|⟨_,h⟩|⟨_,h⟩<;> rw [h] at this<;> cases this
            ·rcases hkd with ⟨_,h⟩|⟨_,h⟩|⟨_,h⟩|⟨_,h⟩<;> rw [h] at hq<;> cases hq
          have HKW:Hid (∀x:Lkr,x.kd=kd→wds l.data.toList=lkK x::lm W1):=fun x hx=>by
           rw [←zJ0,HWL.out.1,zG2]
           congr 1
           unfold lkK
           rw [hx]
           rcases hkd with ⟨h1,h⟩|⟨h1,h⟩|⟨h1,h⟩|⟨h1,h⟩<;> subst h1<;> rw [h]<;> rfl
          have SN:Hid (Calls Tryz.prog 80 #[.pointer (some ⟨g,0,none⟩),.string kb] w7.drew (fun e w8=>∃(nm fr tn:ByteArray) (kx ln up dn:Int) (sc:ByteArray) (wd ht:Int) (T:List (Int×Int)) (A:Option Addr) (c:Nat) (W':List ByteArray) (o':Bool) (A2:Option Addr) (c2:Nat),e= .returned (.agg #[.string nm,.string fr,.string tn,.int .i64 kx,.int .i64 ln,.int .i64 up,.int .i64 dn,.string sc,.int .i64 wd,.int .i64 ht,.slice A T.length c])∧LinkR kd W1 o1 ⟨nm,fr,tn,kx,ln,up,dn,sc,wd,ht,T⟩ W' o'∧TabIn w8 A T.length (kX T) (kY T)∧Blk w8 g 103 #[.slice A2 W'.length c2,.bool o']∧w7.grownBy w8 (some g)∧∀b off,A=some ⟨b,off,none⟩→w7.heap.size≤b)):=by
           have h1:=rdlink kd kb hkd g W1 o1 w7.drew HRD7.out (fun b hb=>(HWOK.out b hb).1) (fun w' hg=>HEE.out w' ⟨hg.os,hg.tape,hg.output,hg.size,hg.block⟩)
           refine h1.mono ?_
           rintro e w8 ⟨⟨nm,fr,tn,kx,ln,up,dn,sc,wd,ht,T⟩,A,c,W',o',e1,e2,e3,⟨v2,e4,A2,c2,rfl,_⟩,e5,e6⟩
           exact ⟨nm,fr,tn,kx,ln,up,dn,sc,wd,ht,T,A,c,W',o',A2,c2,e1,e2,e3,e4,⟨e5.os,e5.tape,e5.output,e5.size,e5.block⟩,e6⟩
          obtain ⟨An,cn,hvn⟩:=zE5 HP7.out.on
          obtain ⟨Al,cl,hvl⟩:=zE5 HP7.out.ol
          subst hvn hvl
          obtain ⟨NN,hNN⟩:∃NN,NM.length=NN:=⟨_,rfl⟩
          obtain ⟨LL,hLL⟩:∃LL,LM.length=LL:=⟨_,rfl⟩
          rw [hNN,hLL] at HP7 HP
          have HLL:=LH hLL
          obtain ⟨y0,y1⟩:=zA3 HP7.out.nt
          have HNB:Hid (LL≤300000):=by
           show _≤_
           have h1:=HK.out.2.2.2.2.len
           have h4:=HKB.out
           have h5:=HK.out.1
           unfold lkx at h1
           rw [List.length_map] at h1
           simp at h1
           omega
          clear hNN hLL
          rcases hkd with ⟨hk1,hk2⟩|⟨hk1,hk2⟩|⟨hk1,hk2⟩|⟨hk1,hk2⟩
          all_goals
           subst hk1 hk2
           go_upto_region 22 with fail
           have c_a:=y1
           go_region_law (first
                |(go_simp
                  go_at_call 80
                  with_reducible refine SN.out.mono ?_
                  rintro e w8 ⟨nm,fr,tn,kx,ln,up,dn,sc,wd,ht,T,AT,cT,W2,o2,A2,c2,rfl,hnr,htb,hrb,hg8,hta⟩
                  have HNR:=LH hnr
                  have HTB:=LH htb
                  have HTA:=LH hta
                  have HRB:=LH hrb
                  have HB8:Hid (Below wr.heap.size wr w8):=zB9 HB7.out HB7.out.size hg8 (fun r e=>by have:=Option.some.inj e;have:=HGE.out;omega)
                  have HP8:=LH (HP.out.call HB8.out)
                  have HON8:Hid (w8.ownsRow (w.heap.size+3) 64 11 (.slice Al LL cl) LL (lc LM)):=by have:=HP8.out.ol;rwa [HLL.out] at this
                  have c_b:=(zA3 HP8.out.nt).2
                  have c_c:=(zA3 (HP8.out.nt.alloc (Obj.cells #[.string nm,.string fr,.string tn,.int .i64 kx,.int .i64 ln,.int .i64 up,.int .i64 dn,.string sc,.int .i64 wd,.int .i64 ht,.slice AT T.length cT] 64))).2
                  clear hnr htb hta hrb hg8)
                |((refine step_append_lies _ (by rfl) _ _ _ (by rfl) (w.heap.size+3) 64 j0 _ 11 136 Tryz.underlying23 LI0.out LZ0.out LZ1.out LZ2.out rfl (by omega) (.slice Al LL cl) LL (lc LM) (by rfl) (HON8.out.alloc _) ⟨w8.heap.size,0,none⟩ 1 1 [.string nm,.string fr,.string tn,.int .i64 kx,.int .i64 ln,.int .i64 up,.int .i64 dn,.string sc,.int .i64 wd,.int .i64 ht,.slice AT T.length cT] (by rfl) (by rfl) (World.news_of_block (cs:=#[.string nm,.string fr,.string tn,.int .i64 kx,.int .i64 ln,.int .i64 up,.int .i64 dn,.string sc,.int .i64 wd,.int .i64 ht,.slice AT T.length cT]) (t:=64) (fr:=(0,0)) (heap_alloc_new w8 _)) (by simp [Value.oneCell']) (by omega) (h63_p HNB.out) (hby_q HNB.out) (zA9 HP8.out.size _) (w8.heap.size+1) (by simp) ?_
                   intro gg capg wA hownA hgrowA hatA hltA
                   have hat9:(Value.slice (some ⟨gg,0,none⟩) (LL+1) capg).ownBlock=(Value.slice Al LL cl).ownBlock∨(Value.slice (some ⟨gg,0,none⟩) (LL+1) capg).ownBlock=some (w8.heap.size+1):=by
                    rcases hatA with h |h
                    ·exact .inl (by rw [h];rfl)
                    ·exact .inr (by rw [h];simp [Value.ownBlock])
                   have HGR:=LH hgrowA
                   have HOW:=LH hownA
                   have HAT:=LH hat9
                   have q1:=(HP8.out.keep (i:=1) (.inr rfl) hgrowA hat9 (B0:=0)).1 (j:=w.heap.size+1+1) (by omega) HP8.out.nt
                   have yf:=q1.frozen 1
                   have yc:=(zA3 q1).2
                   clear hownA hgrowA hatA hltA hat9 q1)))
          all_goals
           have HP9:=LH (HP8.out.linkApp (p:=⟨⟨nm,fr,tn,kx,ln,up,dn,sc,wd,ht,T⟩,AT,cT⟩) HTB.out (fun _ b off e=>⟨by have:=HTA.out b off e;have:=HP7.out.size;omega,fun e2=>by have:=HTA.out b off e;have:=(HP7.out.on.lt b e2.symm).2;omega,fun e2=>by have:=HTA.out b off e;have:=(HP7.out.ol.lt b e2.symm).2;omega⟩) (by rw [HLL.out];exact HOW.out) HGR.out HAT.out)
           have HRB9:Hid (Blk (wA.setCell ⟨w.heap.size+1+1,1,none⟩ (.slice (some ⟨gg,0,none⟩) (LL+1) capg)) g 103 #[.slice A2 W2.length c2,.bool o2]):=((HRB.out.alloc _).grown HGR.out (fun e=>zE2 HON8.out HRB.out (by decide) e.symm)).far (by show g≠w.heap.size+1+1;have:=HG3.out;omega) _
           have HT:=LH (lk_turn HSZ'.out HK.out.1 HK.out.2.2.2.1 HK.out.2.2.2.2 HCL.out.1 HNR.out HWL.out.2 (HKW.out _ (by obtain ⟨_,_,_,_,_,_,_,_,_,hk,_⟩:=HNR.out;exact hk)) HWOK.out H10.out)
           clear HGR HOW HAT yf yc c_a c_b c_c HP8 HON8 HRB HB8 HTB y0 y1 HP7
           go_wp2_with fail
           go_meet
           case rel=>
                refine ⟨_,_,_,_,A2,W2.length,c2,o2,HP9,HRB9,fun h=>HT.out.1 (fun h2=>h ⟨h2.1,by rw [h2.2];rfl⟩),fun h1 h2=>?_⟩
                obtain ⟨q1,q2,q3⟩:=HT.out.2 h1 (List.eq_nil_of_length_eq_zero h2)
                refine ⟨⟨HSS.out.1,fun p hp=>?_⟩,q2,q3 _ _⟩
                rcases List.mem_append.1 hp with hp |hp
                ·exact HSS.out.2 p hp
                ·rw [List.mem_singleton.1 hp]
                 have q4:=lk_size q1
                 rw [zD8] at q4
                 have h2:=HRS.out.2
                 exact ⟨nT q4.1 (by omega),nT q4.2.1 (by omega),nT q4.2.2.1 (by omega),nT q4.2.2.2.1 (by omega),q4.2.2.2.2⟩
         ·have hk7:(kb.toList≠[109,97,110,104,111,108,101]∧kb.toList≠[116,97,110,107]∧kb.toList≠[111,117,116,102,97,108,108])∧kb.toList≠[112,105,112,101]∧kb.toList≠[119,101,105,114]∧kb.toList≠[103,97,116,101]∧kb.toList≠[112,117,109,112]:=by
           have key:∀(L:List UInt8),kb.toList=L→kb=⟨L.toArray⟩:=fun L h=>zD4 (by rw [←zD0,h])
           exact ⟨⟨fun h=>hnk ⟨1,.inl ⟨rfl,key _ h⟩⟩,fun h=>hnk ⟨2,.inr (.inl ⟨rfl,key _ h⟩)⟩,fun h=>hnk ⟨3,.inr (.inr ⟨rfl,key _ h⟩)⟩⟩,fun h=>hlk ⟨1,.inl ⟨rfl,key _ h⟩⟩,fun h=>hlk ⟨2,.inr (.inl ⟨rfl,key _ h⟩)⟩,fun h=>hlk ⟨3,.inr (.inr (.inl ⟨rfl,key _ h⟩))⟩,fun h=>hlk ⟨4,.inr (.inr (.inr ⟨rfl,key _ h⟩))⟩⟩
          have HK7:=LH hk7
          obtain ⟨⟨m1,m2,m3⟩,m4,m5,m6,m7⟩:=hk7
          have t2:(kb.toList==[109,97,110,104,111,108,101])=false:=by simpa using m1
          have t3:(kb.toList==[116,97,110,107])=false:=by simpa using m2
          have t4:(kb.toList==[111,117,116,102,97,108,108])=false:=by simpa using m3
          have t5:(kb.toList==[112,105,112,101])=false:=by simpa using m4
          have t6:(kb.toList==[119,101,105,114])=false:=by simpa using m5
          have t7:(kb.toList==[103,97,116,101])=false:=by simpa using m6
          have t8:(kb.toList==[112,117,109,112])=false:=by simpa using m7
          have HBAD:Hid (NtIs netV s.data.toList [] [] k 7):=by
           have h1:=HK7.out
           rw [zD0] at h1
           obtain ⟨⟨m1,m2,m3⟩,m4,m5,m6,m7⟩:=h1
           rcases HWR.out with ⟨a,_,_⟩|⟨a,_,_⟩
           ·exact ot_turn HSZ'.out HK.out.1 HK.out.2.2.2.1 HK.out.2.2.2.2 HCL.out.1 (k0:=kb.data.toList) (r0:=lm W1) (by rw [←zJ0,a];rfl) ⟨m1,m2,m3,m4,m5,m6,m7⟩ H10.out
           ·obtain ⟨h,r,hr⟩:∃h r,zC2 l=h::r:=by
             cases e:zC2 l with
             |nil=>exact absurd (by rw [←zJ0,e];rfl) (zH0 l.data.toList)
             |cons h r=>exact ⟨h,r,rfl⟩
            have:=a h r hr
            exact ot_turn HSZ'.out HK.out.1 HK.out.2.2.2.1 HK.out.2.2.2.2 HCL.out.1 (k0:=[]) (r0:=lm r) (by rw [←zJ0,hr,zG2,this]) (by decide) H10.out
          clear hnk hlk m1 m2 m3 m4 m5 m6 m7
          obtain ⟨v2,hrb,A2,c2,rfl,_⟩:=HRD7.out
          have HRB:=LH hrb
          obtain ⟨g0,g1⟩:=zA3 hrb
          have gf:=hrb.frozen 1
          clear hrb
          go_wp2_with fail
          go_meet
          case rel=>exact ⟨_,_,_,_,A2,W1.length,c2,false,HP7.out.setg HRB.out HG3.out HOLD.out.1 HOLD.out.2 (i:=1) (.bool false),HRB.out.set_ 1 (.bool false),fun _=>HBAD.out,fun h=>by cases h⟩
   case rest=>
        obtain ⟨NM',LM',vn',vl',A2,N2,c2,bb,HP9,HRB9,HBD,HGOOD⟩:=hcut
        obtain ⟨g0,g1⟩:=zA3 HRB9.out
        have HE10:=LH HP9.out.err
        obtain ⟨a0,a1⟩:=zA3 HE10.out.r0
        obtain ⟨p0,p1⟩:=zA3 HE10.out.r1
        have fa:=fun n=>HE10.out.r0.frozen n
        have fp:=fun n=>HE10.out.r1.frozen n
        rcases hbb:bb with _ |_
        ·subst hbb
         have HBAD:Hid (NtIs netV s.data.toList [] [] k 7):=HBD.out (by rintro ⟨h,_⟩;cases h)
         go_wp2_with fail
         obtain ⟨hb0,hb1,hbl⟩:=HE10.out.out (.slice none 0 0) (.slice none 0 0) (.int .i64 k) (.int .i64 1)
         obtain ⟨s0,s1⟩:=zA3 hb0
         obtain ⟨s2,s3⟩:=zA3 hb1
         have HBL:=LH hbl
         clear hb0 hb1 hbl
         unfold st4 at s0 s1 s2 s3
         refine bodyPost_ret (v:=.tuple #[.agg #[.slice none 0 0,.slice none 0 0],.agg #[.int .i64 k,.int .i64 1],.int .i64 7]) (by simp [results,Tryz.results45,go_sem,s0,s1,s2,s3]) rfl ⟨[],[],k,7,none,none,0,0,HBAD.out,by rw [zH3 k (by have:=HK.out.1;omega)];rfl,⟨by simp,.inl rfl⟩,⟨by simp,.inl rfl⟩,HBL.out⟩
        ·subst hbb
         by_cases hWz:N2=0
         ·have HGD:=LH (HGOOD.out rfl hWz)
          subst hWz
          obtain ⟨k',hk'⟩:∃z,z=k+1:=⟨_,rfl⟩
          have x0:IntKind.i64.wrap ((k:Int)+1)=(k':Int):=by have:=HKB.out;rw [IntKind.wrap_i64];omega
          have HK1:=LH hk'
          have HMS:=LH (Nat.lt_of_lt_of_le HRS.out.1 HK.out.2.1)
          clear hk'
          go_wp2_with fail
          go_roundg (rest.size)
          case measure=>exact HMS.out
          case rel=>
           refine ⟨rest,ls++[zI6 l.data.toList ended],NM',LM',_,_,k',rfl,rfl,⟨?_,nl _,?_,HGD.out.2.1,HGD.out.2.2⟩,HP9,HGD.out.1⟩
           ·rw [HK1.out,List.length_append];have:=HK.out.1;simp;omega
           ·have:=HRS.out.1;have:=HK.out.2.2.1;omega
         ·have T0:decide ((0:Int)<(N2:Int))=true:=dT (by omega)
          have T0':decide (0<N2)=true:=dT (by omega)
          have HWZ:=LH hWz
          clear hWz
          have HBAD:Hid (NtIs netV s.data.toList [] [] k 7):=HBD.out (by rintro ⟨_,h⟩;exact HWZ.out h)
          go_wp2_with fail
          obtain ⟨hb0,hb1,hbl⟩:=HE10.out.out (.slice none 0 0) (.slice none 0 0) (.int .i64 k) (.int .i64 1)
          obtain ⟨s0,s1⟩:=zA3 hb0
          obtain ⟨s2,s3⟩:=zA3 hb1
          have HBL:=LH hbl
          clear hb0 hb1 hbl
          unfold st4 at s0 s1 s2 s3
          refine bodyPost_ret (v:=.tuple #[.agg #[.slice none 0 0,.slice none 0 0],.agg #[.int .i64 k,.int .i64 1],.int .i64 7]) (by simp [results,Tryz.results45,go_sem,s0,s1,s2,s3]) rfl ⟨[],[],k,7,none,none,0,0,HBAD.out,by rw [zH3 k (by have:=HK.out.1;omega)];rfl,⟨by simp,.inl rfl⟩,⟨by simp,.inl rfl⟩,HBL.out⟩
end Go.Proofs.YtghefgifhebniaaGreatDoor

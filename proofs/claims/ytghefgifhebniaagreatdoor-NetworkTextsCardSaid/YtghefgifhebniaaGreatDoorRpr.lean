/- The reference's Parse of networks. -/
import Derived.Test.YtghefgifhebniaaGreatDoorMgB
import Derived.Test.YtghefgifhebniaaGreatDoorNPr
import Derived.Test.YtghefgifhebniaaGreatDoorNetW
import Derived.Test.YtghefgifhebniaaGreatDoorRnn
import Derived.Test.YtghefgifhebniaaGreatDoorRlk
namespace Go.Proofs.YtghefgifhebniaaGreatDoor
open Go.RowKit
set_option linter.unusedVariables false
set_option linter.unusedSimpArgs false
theorem sz_al (w:World) (o:Obj):(w.alloc o).heap.size=w.heap.size+1:=by simp
theorem rparse_big (s:ByteArray) (hbig:262144<s.size) (w:World):
 Calls Tryz.prog 46 #[.string s] w (PaPost w s):=by
 have T0:decide ((262144:Int)<(s.size:Int))=true:=dT (by omega)
 have T0':decide (262144<s.size)=true:=dT hbig
 have HIS:Hid (NtIs netV s.data.toList (ndx []) (lkx []) 0 4):=.full hbig
 clear hbig
 go_enter Tryz.func46,Tryz.ntmps46
 go_wp2_with fail
 refine bodyPost_ret (v:=.tuple #[.agg #[.slice none 0 0,.slice none 0 0],.agg #[.int .i64 0,.int .i64 0],.int .i64 4]) (by simp [results,Tryz.results46,go_sem]) rfl ⟨[],[],0,4,none,none,0,0,HIS.out,rfl,⟨by simp,.inl rfl⟩,⟨by simp,.inl rfl⟩,?_⟩
 exact bel
set_option maxRecDepth 100000 in
set_option maxHeartbeats 8000000 in
theorem rparseN (s:ByteArray) (hs:s.size≤10000) (w:World):Calls Tryz.prog 46 #[.string s] w (PaPost w s):=by
 have T0:decide ((262144:Int)<(s.size:Int))=false:=dF (by omega)
 have T0':decide (262144<s.size)=false:=dF (by omega)
 have HSZ:=LH hs
 have HSL:Hid (s.data.toList.length=s.size):=rfl
 have HS26:Hid (s.data.toList.length≤262144):=by show _≤_;rw [HSL.out];omega
 clear hs
 obtain ⟨i0,hi0,hz0,hz1,hz2⟩:=zA8 infoNd
 have HI0:=LH hi0
 have HZ0:=LH hz0
 have HZ1:=LH hz1
 have HZ2:=LH hz2
 obtain ⟨j0,hj0,hy0,hy1,hy2⟩:=zA8 infoLk
 have LI0:=LH hj0
 have LZ0:=LH hy0
 have LZ1:=LH hy1
 have LZ2:=LH hy2
 clear hi0 hz0 hz1 hz2 hj0 hy0 hy1 hy2
 go_enter Tryz.func46,Tryz.ntmps46
 go_wp2_with fail
 have HPI:Hid (PaI w [] [] (.slice none 0 0) (.slice none 0 0) (((w.alloc (Obj.cells #[.slice none 0 0,.slice none 0 0] 25)).alloc (Obj.cells #[.int .i64 0,.int .i64 0] 73)).alloc (Obj.cells #[.slice none 0 0,.slice none 0 0] 25))):=by
  have b0:=(((Blk.new w 25 #[.slice none 0 0,.slice none 0 0]).alloc (Obj.cells #[.int .i64 0,.int .i64 0] 73)).alloc (Obj.cells #[.slice none 0 0,.slice none 0 0] 25))
  have b1:=((Blk.new (w.alloc (Obj.cells #[.slice none 0 0,.slice none 0 0] 25)) 73 #[.int .i64 0,.int .i64 0]).alloc (Obj.cells #[.slice none 0 0,.slice none 0 0] 25))
  have b2:=Blk.new ((w.alloc (Obj.cells #[.slice none 0 0,.slice none 0 0] 25)).alloc (Obj.cells #[.int .i64 0,.int .i64 0] 73)) 25 #[.slice none 0 0,.slice none 0 0]
  simp only [World.size_alloc] at b0 b1 b2
  refine ⟨b0,b1,b2,World.ownsRow_nil _ _ _ _,World.ownsRow_nil _ _ _ _,fun p hp=>absurd hp (by simp),fun p hp=>absurd hp (by simp),?_⟩
  exact (((bR _ w).alloc (nl _) _).alloc (by simp) _).alloc (by simp<;> omega) _
 generalize (((w.alloc (Obj.cells #[.slice none 0 0,.slice none 0 0] 25)).alloc (Obj.cells #[.int .i64 0,.int .i64 0] 73)).alloc (Obj.cells #[.slice none 0 0,.slice none 0 0] 25))=w3 at HPI⊢
 go_loopw [6,7,8] (fun u v x wr=>∃(k f i:Nat) (ls:List (List UInt8)) (NM:List Ndm) (LM:List Lkm) (vn vl:Value),u= .int .i64 k∧v= .int .i64 f∧x= .int .i64 i∧Hid (RqN s.data.toList f i ls (ndx NM) (lkx LM) k)∧Hid (PaI w NM LM vn vl wr)) (fun _ _ x _=>s.size - (intOf x).toNat)
 case atStart=>exact ⟨1,0,0,[],[],[],_,_,rfl,rfl,rfl,RqN.start _,HPI.out⟩
 case round=>
  clear HPI
  obtain ⟨k,f,i,ls,NM,LM,vn,vl,rfl,rfl,rfl,HR,HP⟩:=hrel
  obtain ⟨hfn,hfl,hfk⟩:=HR.out.few HS26.out
  have HNB:Hid (NM.length≤300000):=by show _≤_;unfold ndx at hfn;rw [List.length_map] at hfn;omega
  have HLB:Hid (LM.length≤300000):=by show _≤_;unfold lkx at hfl;rw [List.length_map] at hfl;omega
  have HKB:=LH hfk
  clear hfn hfl hfk
  obtain ⟨An,cn,hvn⟩:=zE5 HP.out.on
  obtain ⟨Al,cl,hvl⟩:=zE5 HP.out.ol
  subst hvn hvl
  obtain ⟨NN,hNN⟩:∃NN,NM.length=NN:=⟨_,rfl⟩
  obtain ⟨LL,hLL⟩:∃LL,LM.length=LL:=⟨_,rfl⟩
  have HNN:=LH hNN
  have HLL:=LH hLL
  rw [hNN,hLL] at HP
  rw [hNN] at HNB
  rw [hLL] at HLB
  clear hNN hLL
  by_cases hk:i<s.size
  case neg=>
   have T1:decide ((i:Int)<(s.size:Int))=false:=dF (by omega)
   have T1':decide (i<s.size)=false:=dF hk
   have hie:i=s.data.toList.length:=by have h1:=HR.out.le;have h2:=HSL.out;omega
   by_cases hfs:f<s.size
   case pos=>
        have T2:decide ((f:Int)<(s.size:Int))=true:=dT (by omega)
        have T2':decide (f<s.size)=true:=dT hfs
        have HBAD:Hid (NtIs netV s.data.toList [] [] k 7):=HR.out.tail HS26.out hie hfs
        clear hfs hie hk
        have HE5:=LH (HP.out.err)
        obtain ⟨a0,a1⟩:=zA3 HE5.out.r0
        obtain ⟨p0,p1⟩:=zA3 HE5.out.r1
        have fa:=fun n=>HE5.out.r0.frozen n
        have fp:=fun n=>HE5.out.r1.frozen n
        go_wp2_with fail
        obtain ⟨hb0,hb1,hbl⟩:=HE5.out.out (.slice none 0 0) (.slice none 0 0) (.int .i64 k) (.int .i64 1)
        obtain ⟨s0,s1⟩:=zA3 hb0
        obtain ⟨s2,s3⟩:=zA3 hb1
        have HBL:=LH hbl
        clear hb0 hb1 hbl
        unfold st4 at s0 s1 s2 s3
        refine bodyPost_ret (v:=.tuple #[.agg #[.slice none 0 0,.slice none 0 0],.agg #[.int .i64 k,.int .i64 1],.int .i64 7]) (by simp [results,Tryz.results46,go_sem,s0,s1,s2,s3]) rfl ⟨[],[],k,7,none,none,0,0,HBAD.out,by rw [zH3 k (by have:=HR.out.kk;omega)];rfl,⟨by simp,.inl rfl⟩,⟨by simp,.inl rfl⟩,HBL.out⟩
   have T2:decide ((f:Int)<(s.size:Int))=false:=dF (by omega)
   have T2':decide (f<s.size)=false:=dF hfs
   have HRN:Hid (Runs [] [] (rln s.data.toList) (ndx NM) (lkx LM)):=HR.out.all hfs
   obtain ⟨hn2,hm2⟩:=runs_few (by rw [HSL.out];exact HSZ.out) HRN.out
   unfold ndx at hn2
   unfold lkx at hm2
   rw [List.length_map] at hn2 hm2
   have hz:=HR.out.sz.net hn2 hm2
   have hon:=HP.out.on
   have hol:=HP.out.ol
   rw [←HNN.out] at hon
   rw [←HLL.out] at hol
   have hND:=(nodes_of hon HP.out.tn (by omega)).2
   have hLK:=(links_of hol HP.out.tl (by omega)).2
   have SV0:=wvalidN An Al NM.length cn LM.length cl (ndsM NM) (lksM LM) hz wr hND hLK
   rw [HNN.out,HLL.out] at SV0
   have SV:=LH SV0
   have HVE:Hid (netP (ndsM NM) NM.length (lksM LM) LM.length↔netV (ndx NM) (lkx LM)):=by
        have h1:(ndx NM).length=NM.length:=by unfold ndx;simp
        have h2:(lkx LM).length=LM.length:=by unfold lkx;simp
        have h3:=netV_iff (ndx NM) (lkx LM) (fun k=>(NM.getD k ⟨zNd,none,0⟩).A) (fun k=>(LM.getD k ⟨zLk,none,0⟩).A) (fun k=>(NM.getD k ⟨zNd,none,0⟩).c) (fun k=>(LM.getD k ⟨zLk,none,0⟩).c)
        rw [h1,h2] at h3
        exact h3
   rw [HNN.out,HLL.out] at HVE
   have HN2:Hid (NM.length≤2000∧LM.length≤2000):=⟨hn2,hm2⟩
   obtain ⟨y0,y1⟩:=zA3 HP.out.nt
   clear hfs hie hk hn2 hm2 hz hon hol hND hLK SV0
   by_cases hv:netP (ndsM NM) NN (lksM LM) LL
   case neg=>
        rw [zA0 hv] at SV
        have HV:=LH hv
        clear hv
        go_wp2_with (first
         |(go_at_call 18
           with_reducible refine SV.out.mono ?_
           rintro e w5 ⟨rfl,hb5⟩
           have HP5:=LH (HP.out.call hb5)
           have HE5:=LH (HP5.out.err)
           obtain ⟨a0,a1⟩:=zA3 HE5.out.r0
           obtain ⟨p0,p1⟩:=zA3 HE5.out.r1
           have fa:=fun n=>HE5.out.r0.frozen n
           have fp:=fun n=>HE5.out.r1.frozen n
           clear hb5))
        obtain ⟨hb0,hb1,hbl⟩:=HE5.out.out (.slice none 0 0) (.slice none 0 0) (.int .i64 0) (.int .i64 0)
        obtain ⟨s0,s1⟩:=zA3 hb0
        obtain ⟨s2,s3⟩:=zA3 hb1
        have HBL:=LH hbl
        clear hb0 hb1 hbl
        unfold st4 at s0 s1 s2 s3
        refine bodyPost_ret (v:=.tuple #[.agg #[.slice none 0 0,.slice none 0 0],.agg #[.int .i64 0,.int .i64 0],.int .i64 1]) (by simp [results,Tryz.results46,go_sem,s0,s1,s2,s3]) rfl ⟨[],[],0,1,none,none,0,0,.arg _ _ HS26.out HRN.out (fun h=>HV.out (HVE.out.2 h)),rfl,⟨by simp,.inl rfl⟩,⟨by simp,.inl rfl⟩,HBL.out⟩
   rw [zA2 hv] at SV
   have HV:=LH hv
   clear hv
   go_wp2_with (first
        |(go_at_call 18
          with_reducible refine SV.out.mono ?_
          rintro e w5 ⟨rfl,hb5⟩
          have HP5:=LH (HP.out.call hb5)
          have HE5:=LH (HP5.out.err)
          obtain ⟨y0,y1⟩:=zA3 HP5.out.nt
          obtain ⟨a0,a1⟩:=zA3 HE5.out.r0
          obtain ⟨p0,p1⟩:=zA3 HE5.out.r1
          have fa:=fun n=>HE5.out.r0.frozen n
          have fp:=fun n=>HE5.out.r1.frozen n
          clear hb5))
   obtain ⟨hb0,hb1,hbl,hon,hol,htn,htl⟩:=HP5.out.out (.slice An NN cn) (.slice Al LL cl) (.int .i64 0) (.int .i64 0)
   obtain ⟨s0,s1⟩:=zA3 hb0
   obtain ⟨s2,s3⟩:=zA3 hb1
   have hN2:=HN2.out
   have HX:Hid (NdIn (st4 w5 w.heap.size (.slice An NN cn) (.slice Al LL cl) (.int .i64 0) (.int .i64 0)) An NM.length (ndsM NM)):=(nodes_of hon htn (by omega)).2
   have HY:Hid (LkIn (st4 w5 w.heap.size (.slice An NN cn) (.slice Al LL cl) (.int .i64 0) (.int .i64 0)) Al LM.length (lksM LM)):=(links_of hol htl (by omega)).2
   have HBL:=LH hbl
   clear hb0 hb1 hbl hon hol htn htl hN2
   unfold st4 at s0 s1 s2 s3
   refine bodyPost_ret (v:=.tuple #[.agg #[.slice An NN cn,.slice Al LL cl],.agg #[.int .i64 0,.int .i64 0],.int .i64 0]) (by simp [results,Tryz.results46,go_sem,s0,s1,s2,s3]) rfl ⟨NM,LM,0,0,An,Al,cn,cl,.ok _ _ HS26.out HRN.out (HVE.out.1 HV.out),by rw [HNN.out,HLL.out];rfl,HX.out,HY.out,HBL.out⟩
  have T1:decide ((i:Int)<(s.size:Int))=true:=dT (by omega)
  have T1':decide (i<s.size)=true:=dT hk
  obtain ⟨i',hi'⟩:∃z,z=i+1:=⟨_,rfl⟩
  have hsz:=HSZ.out
  have x0:IntKind.i64.wrap ((i:Int)+1)=(i':Int):=by rw [IntKind.wrap_i64];omega
  have r0:(0:Int)≤(i:Int):=by omega
  have r1:(i:Int)<(s.size:Int):=by omega
  have hfi:=HR.out.fi
  have r2:(0:Int)≤(f:Int):=by omega
  have r3:(f:Int)≤(i:Int):=by omega
  have r4:(i:Int)≤(s.size:Int):=by omega
  have r5:f≤i:=by omega
  have r6:i≤s.size:=by omega
  have HMS:Hid (s.size - (intOf (Value.int .i64 (i':Int))).toNat<s.size - (intOf (Value.int .i64 (i:Int))).toNat):=by show _<_;simp [intOf];omega
  obtain ⟨d,hd⟩:∃d:Nat,(s[i]'hk).toNat=d:=⟨_,rfl⟩
  have hil:i<s.data.toList.length:=by rw [HSL.out];exact hk
  have hgi:s.data.toList[i]=s[i]'hk:=rfl
  by_cases hdc:d=10
  case neg=>
   have u1:((d:Int)!=10)=true:=by simp;omega
   have u2:decide (d=10)=false:=dF hdc
   have HR':Hid (RqN s.data.toList f i' ls (ndx NM) (lkx LM) k):=by
        show RqN _ _ _ _ _ _ _
        rw [hi']
        refine HR.out.skip hil (fun e=>hdc ?_)
        rw [←hd,←hgi,e];rfl
   clear hi' hsz hil hgi hdc hfi
   go_wp2_with fail
   go_roundw
   case measure=>exact HMS.out
   case rel=>exact ⟨k,f,i',ls,NM,LM,_,_,rfl,rfl,rfl,HR'.out,HP.out⟩
  have u1:((d:Int)!=10)=false:=by simp [hdc]
  have u2:decide (d=10)=true:=dT hdc
  have hc:s.data.toList[i]=10:=by
   rw [hgi]
   apply UInt8.toNat_inj.1
   rw [hd,hdc];rfl
  obtain ⟨l,hl⟩:∃l,s.extract f i=l:=⟨_,rfl⟩
  have hld:l.data.toList=(s.data.toList.drop f).take (i - f):=by rw [←hl,zC3]
  have hlz:l.size≤20000:=by
   show l.data.toList.length≤_
   rw [hld,List.length_take,List.length_drop,HSL.out];omega
  have hl10:(10:UInt8)∉l.data.toList:=by rw [hld];exact HR.out.no
  obtain ⟨k',hk'⟩:∃z,z=k+1:=⟨_,rfl⟩
  have x1:IntKind.i64.wrap ((k:Int)+1)=(k':Int):=by have:=HKB.out;rw [IntKind.wrap_i64];omega
  have HSTEP:Hid (∀N' L',Stp (ndx NM) (lkx LM) (l.data.toList++[10]) N' L'→RqN s.data.toList i' i' (ls++[l.data.toList++[10]]) N' L' k'):=by
   intro N' L' h
   rw [hi',hk',hld]
   rw [hld] at h
   exact HR.out.step HS26.out hil hc h
  have HFORM:Hid (Stuck (ndx NM) (lkx LM) (l.data.toList++[10])→NtIs netV s.data.toList [] [] k 7):=by
   intro h
   rw [hld] at h
   exact HR.out.form HS26.out hil hc h
  have SN:Hid (∀w',Calls Tryz.prog 81 #[.string l] w' fun e w''=>∃nm kx ax ay iv gd T pt rs A1 c1 f1,e= .returned (.tuple #[.agg #[.string nm,.int .i64 kx,.int .i64 ax,.int .i64 ay,.int .i64 iv,.int .i64 gd,.slice A1 T.length c1,.bool pt,.int .i64 rs],.bool f1])∧TabIn w'' A1 T.length (kX T) (kY T)∧(T.length≠0→∀b off,A1=some ⟨b,off,none⟩→w'.heap.size≤b)∧(f1=true→IsNd l.data.toList ⟨nm,kx,ax,ay,iv,gd,T,pt,rs⟩)∧(f1=false→∀y,¬IsNd l.data.toList y)∧Below w'.heap.size w' w''):=fun w'=>by
   refine (rnodeOf l hlz hl10 w').mono ?_
   rintro e w'' ⟨⟨nm,kx,ax,ay,iv,gd,T,pt,rs⟩,A1,c1,f1,rfl,h1,h2,h3,h4,h5⟩
   exact ⟨nm,kx,ax,ay,iv,gd,T,pt,rs,A1,c1,f1,rfl,h1,h2,h3,h4,h5⟩
  have SL:Hid (∀w',Calls Tryz.prog 82 #[.string l] w' fun e w''=>∃nm2 fr2 tn2 kx2 ln2 up2 dn2 sx2 wd2 ht2 T2 A2 c2 f2,e= .returned (.tuple #[.agg #[.string nm2,.string fr2,.string tn2,.int .i64 kx2,.int .i64 ln2,.int .i64 up2,.int .i64 dn2,.string sx2,.int .i64 wd2,.int .i64 ht2,.slice A2 T2.length c2],.bool f2])∧TabIn w'' A2 T2.length (kX T2) (kY T2)∧(T2.length≠0→∀b off,A2=some ⟨b,off,none⟩→w'.heap.size≤b)∧(f2=true→IsLk l.data.toList ⟨nm2,fr2,tn2,kx2,ln2,up2,dn2,sx2,wd2,ht2,T2⟩)∧(f2=false→∀y,¬IsLk l.data.toList y)∧Below w'.heap.size w' w''):=fun w'=>by
   refine (rlinkOf l hlz hl10 w').mono ?_
   rintro e w'' ⟨⟨nm2,fr2,tn2,kx2,ln2,up2,dn2,sx2,wd2,ht2,T2⟩,A2,c2,f2,rfl,h1,h2,h3,h4,h5⟩
   exact ⟨nm2,fr2,tn2,kx2,ln2,up2,dn2,sx2,wd2,ht2,T2,A2,c2,f2,rfl,h1,h2,h3,h4,h5⟩
  clear hi' hsz hil hgi hfi hc hld hlz hl10 hk'
  subst hdc
  go_upto_region 12 with (first
   |(go_at_call 81
     try rw [hl]
     refine (SN.out _).mono ?_
     rintro e w4 ⟨nm,kx,ax,ay,iv,gd,T,pt,rs,A1,c1,f1,rfl,h1,h2,h3,h4,h5⟩
     have HP4:=LH (HP.out.call h5)
     have HT4:=LH h1
     have HA4:Hid (T.length≠0→∀b off,A1=some ⟨b,off,none⟩→wr.heap.size≤b):=h2
     have HY4:=LH h3
     have HN4:=LH h4
     have HL4:=LH h5.size
     clear h1 h2 h3 h4 h5)
   |(go_at_call 82
     try rw [hl]
     refine (SL.out _).mono ?_
     rintro e w6 ⟨nm2,fr2,tn2,kx2,ln2,up2,dn2,sx2,wd2,ht2,T2,A2,c2,f2,rfl,h1,h2,h3,h4,h5⟩
     have hal4:Below w4.heap.size w4 w6:=zA1 ((bR _ w4).alloc (nl _) (.cells #[.string nm,.int .i64 kx,.int .i64 ax,.int .i64 ay,.int .i64 iv,.int .i64 gd,.slice A1 T.length c1,.bool pt,.int .i64 rs] 55)) h5
     have HP6:=LH (HP4.out.call hal4)
     have HT6:=LH (HT4.out.below (nl _) hal4)
     have HU6:=LH h1
     have HB6:Hid (T2.length≠0→∀b off,A2=some ⟨b,off,none⟩→wr.heap.size≤b):=fun hn b off e=>by
      have:=h2 hn b off e
      have h9:=HL4.out
      simp only [World.size_alloc] at this
      omega
     have HX6:Hid (Blk w6 w4.heap.size 55 #[.string nm,.int .i64 kx,.int .i64 ax,.int .i64 ay,.int .i64 iv,.int .i64 gd,.slice A1 T.length c1,.bool pt,.int .i64 rs]):=(Blk.new w4 55 #[.string nm,.int .i64 kx,.int .i64 ax,.int .i64 ay,.int .i64 iv,.int .i64 gd,.slice A1 T.length c1,.bool pt,.int .i64 rs]).call h5
     have HY6:=LH h3
     have HN6:=LH h4
     clear h1 h2 h3 h4 h5 hal4))
  have hal6:Below w6.heap.size w6 (w6.alloc (.cells #[.string nm2,.string fr2,.string tn2,.int .i64 kx2,.int .i64 ln2,.int .i64 up2,.int .i64 dn2,.string sx2,.int .i64 wd2,.int .i64 ht2,.slice A2 T2.length c2] 64)):=(bR _ w6).alloc (nl _) _
  have HP5:=LH (HP6.out.call hal6)
  have HT5:=LH (HT6.out.below (nl _) hal6)
  have HU5:=LH (HU6.out.below (nl _) hal6)
  have HX5:=LH (HX6.out.call hal6)
  have HZ5:Hid (Blk (w6.alloc (.cells #[.string nm2,.string fr2,.string tn2,.int .i64 kx2,.int .i64 ln2,.int .i64 up2,.int .i64 dn2,.string sx2,.int .i64 wd2,.int .i64 ht2,.slice A2 T2.length c2] 64)) w6.heap.size 64 #[.string nm2,.string fr2,.string tn2,.int .i64 kx2,.int .i64 ln2,.int .i64 up2,.int .i64 dn2,.string sx2,.int .i64 wd2,.int .i64 ht2,.slice A2 T2.length c2]):=Blk.new _ _ _
  clear hal6 HP4 HT4 HP6 HT6 HU6 HX6 HL4
  generalize w6.alloc (.cells #[.string nm2,.string fr2,.string tn2,.int .i64 kx2,.int .i64 ln2,.int .i64 up2,.int .i64 dn2,.string sx2,.int .i64 wd2,.int .i64 ht2,.slice A2 T2.length c2] 64)=w5 at HP5 HT5 HU5 HX5 HZ5⊢
  generalize w4.heap.size=bn at HX5⊢
  generalize w6.heap.size=bl at HZ5⊢
  obtain ⟨y0,y1⟩:=zA3 HP5.out.nt
  obtain ⟨c_0,c_1,c_2,c_3,c_4,c_5,c_6,c_7,c_8⟩:=blk9 HX5.out
  obtain ⟨d_0,d_1,d_2,d_3,d_4,d_5,d_6,d_7,d_8,d_9,d_10⟩:=zA5 HZ5.out
  have HMR:Hid (w.heap.size+3≤wr.heap.size):=HP.out.size
  have HOWN:Hid (∀b,wr.heap.size≤b→w.heap.size+3≤b∧some b≠(Value.slice An NN cn).ownBlock∧some b≠(Value.slice Al LL cl).ownBlock):=fun b hb=>by
   have h1:=HMR.out
   refine ⟨by omega,fun e=>?_,fun e=>?_⟩
   ·have:=(HP.out.on.lt b e.symm).2;omega
   ·have:=(HP.out.ol.lt b e.symm).2;omega
  clear SN SL HP
  by_cases hL0:LL=0
  case pos=>
   have T3:((LL:Int)==0)=true:=by simp;omega
   have T3':decide (LL=0)=true:=dT hL0
   have HLZ:Hid (lkx LM=[]):=by show _=_;unfold lkx;rw [List.map_eq_nil_iff,←List.length_eq_zero_iff,HLL.out];exact hL0
   clear hL0
   cases f1 with
   |true=>
    go_wp2_with (first
     |(at_builtin;refine wpList_append_own_at _ ?qn_1 (.tmp 52) (.tmp 54) 22 ?qn_2 (w.heap.size+3) 55 i0 (.agg #[.string ⟨#[]⟩,.int .i64 0,.int .i64 0,.int .i64 0,.int .i64 0,.int .i64 0,.slice none 0 0,.bool false,.int .i64 0]) 9 96 Tryz.underlying22 HI0.out HZ0.out HZ1.out HZ2.out ?qn_3 ?qn_4 (.slice An NN cn) NN (nc NM) ?qn_5 ((by have h:=HP5.out.on;rw [HNN.out] at h;exact h.alloc _)) ⟨w5.heap.size,0,none⟩ 1 1 [.string nm,.int .i64 kx,.int .i64 ax,.int .i64 ay,.int .i64 iv,.int .i64 gd,.slice A1 T.length c1,.bool pt,.int .i64 rs] ?qn_7 (rfl) (World.news_of_block (cs:=#[.string nm,.int .i64 kx,.int .i64 ax,.int .i64 ay,.int .i64 iv,.int .i64 gd,.slice A1 T.length c1,.bool pt,.int .i64 rs]) (t:=55) (fr:=(0,0)) (heap_alloc_new _ _)) (by simp [Value.oneCell']) (h63_p HNB.out) (hby_p HNB.out) (zA9 HP5.out.size _) ?qn_14
       case qn_1=>exact rfl
       case qn_2=>exact rfl
       case qn_3=>exact rfl
       case qn_4=>decide
       case qn_5=>exact rfl
       case qn_7=>exact rfl
       intro u2 w7 hown2 hgrow2 hnil2 hat2
       obtain ⟨g2,cap2,rfl,hb2,hl2⟩:=hown2.form (by omega)
       have HO7:=LH hown2
       have HG7:=LH hgrow2
       have HAT7:=LH hat2
       have HN7:Hid (Blk w7 (w.heap.size+1+1) 25 #[.slice An NN cn,.slice Al LL cl]):=(HP5.out.nt.alloc _).grown hgrow2 (fun e=>by have h:=(HP5.out.on.lt _ e.symm).1;omega)
       obtain ⟨o0,o1⟩:=zA3 HN7.out
       have f7:=HN7.out.frozen 0
       clear hown2 hgrow2 hnil2 hat2 hb2 hl2))
    go_roundw
    case measure=>exact HMS.out
    case rel=>
     have hp:=HP5.out.nodeApp (p:=⟨⟨nm,kx,ax,ay,iv,gd,T,pt,rs⟩,A1,c1⟩) HT5.out (fun hn b off e=>HOWN.out b (HA4.out hn b off e)) (by rw [HNN.out];exact HO7.out) HG7.out (by have h:=HAT7.out;rw [sz_al] at h;exact h)
     refine ⟨k',i',i',ls++[l.data.toList++[10]],NM++[⟨⟨nm,kx,ax,ay,iv,gd,T,pt,rs⟩,A1,c1⟩],LM,_,_,rfl,rfl,rfl,?_,LH hp⟩
     ·have e1:ndx (NM++[⟨⟨nm,kx,ax,ay,iv,gd,T,pt,rs⟩,A1,c1⟩])=ndx NM++[⟨nm,kx,ax,ay,iv,gd,T,pt,rs⟩]:=by unfold ndx;simp
      have e2:lkx LM=[]:=HLZ.out
      show RqN _ _ _ _ _ _ _
      rw [e1]
      refine HSTEP.out _ _ ?_
      rw [e2]
      exact stp_nd (HY4.out rfl)
   |false=>
    cases f2 with
    |true=>
     go_wp2_with (first
      |(at_builtin;refine wpList_append_own_at _ ?ql_1 (.tmp 59) (.tmp 61) 23 ?ql_2 (w.heap.size+3) 64 j0 (.agg #[.string ⟨#[]⟩,.string ⟨#[]⟩,.string ⟨#[]⟩,.int .i64 0,.int .i64 0,.int .i64 0,.int .i64 0,.string ⟨#[]⟩,.int .i64 0,.int .i64 0,.slice none 0 0]) 11 136 Tryz.underlying23 LI0.out LZ0.out LZ1.out LZ2.out ?ql_3 ?ql_4 (.slice Al LL cl) LL (lc LM) ?ql_5 ((by have h:=HP5.out.ol;rw [HLL.out] at h;exact h.alloc _)) ⟨w5.heap.size,0,none⟩ 1 1 [.string nm2,.string fr2,.string tn2,.int .i64 kx2,.int .i64 ln2,.int .i64 up2,.int .i64 dn2,.string sx2,.int .i64 wd2,.int .i64 ht2,.slice A2 T2.length c2] ?ql_7 (rfl) (World.news_of_block (cs:=#[.string nm2,.string fr2,.string tn2,.int .i64 kx2,.int .i64 ln2,.int .i64 up2,.int .i64 dn2,.string sx2,.int .i64 wd2,.int .i64 ht2,.slice A2 T2.length c2]) (t:=64) (fr:=(0,0)) (heap_alloc_new _ _)) (by simp [Value.oneCell']) (h63_p HLB.out) (hby_q HLB.out) (zA9 HP5.out.size _) ?ql_14
        case ql_1=>exact rfl
        case ql_2=>exact rfl
        case ql_3=>exact rfl
        case ql_4=>decide
        case ql_5=>exact rfl
        case ql_7=>exact rfl
        intro u2 w7 hown2 hgrow2 hnil2 hat2
        obtain ⟨g2,cap2,rfl,hb2,hl2⟩:=hown2.form (by omega)
        have HO7:=LH hown2
        have HG7:=LH hgrow2
        have HAT7:=LH hat2
        have HN7:Hid (Blk w7 (w.heap.size+1+1) 25 #[.slice An NN cn,.slice Al LL cl]):=(HP5.out.nt.alloc _).grown hgrow2 (fun e=>by have h:=(HP5.out.ol.lt _ e.symm).1;omega)
        obtain ⟨o0,o1⟩:=zA3 HN7.out
        have f7:=HN7.out.frozen 1
        clear hown2 hgrow2 hnil2 hat2 hb2 hl2))
     go_roundw
     case measure=>exact HMS.out
     case rel=>
      have hp:=HP5.out.linkApp (p:=⟨⟨nm2,fr2,tn2,kx2,ln2,up2,dn2,sx2,wd2,ht2,T2⟩,A2,c2⟩) HU5.out (fun hn b off e=>HOWN.out b (HB6.out hn b off e)) (by rw [HLL.out];exact HO7.out) HG7.out (by have h:=HAT7.out;rw [sz_al] at h;exact h)
      refine ⟨k',i',i',ls++[l.data.toList++[10]],NM,LM++[⟨⟨nm2,fr2,tn2,kx2,ln2,up2,dn2,sx2,wd2,ht2,T2⟩,A2,c2⟩],_,_,rfl,rfl,rfl,?_,LH hp⟩
      ·have e1:lkx (LM++[⟨⟨nm2,fr2,tn2,kx2,ln2,up2,dn2,sx2,wd2,ht2,T2⟩,A2,c2⟩])=lkx LM++[⟨nm2,fr2,tn2,kx2,ln2,up2,dn2,sx2,wd2,ht2,T2⟩]:=by unfold lkx;simp
       show RqN _ _ _ _ _ _ _
       rw [e1]
       exact HSTEP.out _ _ (stp_lk (HY6.out rfl))
    |false=>
     have HBAD:Hid (NtIs netV s.data.toList [] [] k 7):=HFORM.out (stuck_no (fun _=>HN4.out rfl) (HN6.out rfl))
     have HE5:=LH (HP5.out.err)
     obtain ⟨a0,a1⟩:=zA3 HE5.out.r0
     obtain ⟨p0,p1⟩:=zA3 HE5.out.r1
     have fa:=fun n=>HE5.out.r0.frozen n
     have fp:=fun n=>HE5.out.r1.frozen n
     go_wp2_with fail
     obtain ⟨hb0,hb1,hbl⟩:=HE5.out.out (.slice none 0 0) (.slice none 0 0) (.int .i64 k) (.int .i64 1)
     obtain ⟨s0,s1⟩:=zA3 hb0
     obtain ⟨s2,s3⟩:=zA3 hb1
     have HBL:=LH hbl
     clear hb0 hb1 hbl
     unfold st4 at s0 s1 s2 s3
     refine bodyPost_ret (v:=.tuple #[.agg #[.slice none 0 0,.slice none 0 0],.agg #[.int .i64 k,.int .i64 1],.int .i64 7]) (by simp [results,Tryz.results46,go_sem,s0,s1,s2,s3]) rfl ⟨[],[],k,7,none,none,0,0,HBAD.out,by rw [zH3 k (by have:=HR.out.kk;omega)];rfl,⟨by simp,.inl rfl⟩,⟨by simp,.inl rfl⟩,HBL.out⟩
  have T3:((LL:Int)==0)=false:=by simp;omega
  have T3':decide (LL=0)=false:=dF hL0
  have HLZ:Hid (lkx LM≠[]):=by show _≠_;unfold lkx;rw [ne_eq,List.map_eq_nil_iff,←List.length_eq_zero_iff,HLL.out];exact hL0
  clear hL0
  cases f2 with
  |true=>
   cases f1 with
   |true=>exact (nd_not_lk (HY4.out rfl) (HY6.out rfl)).elim
   |false=>
    go_wp2_with (first
     |(at_builtin;refine wpList_append_own_at _ ?qm_1 (.tmp 59) (.tmp 61) 23 ?qm_2 (w.heap.size+3) 64 j0 (.agg #[.string ⟨#[]⟩,.string ⟨#[]⟩,.string ⟨#[]⟩,.int .i64 0,.int .i64 0,.int .i64 0,.int .i64 0,.string ⟨#[]⟩,.int .i64 0,.int .i64 0,.slice none 0 0]) 11 136 Tryz.underlying23 LI0.out LZ0.out LZ1.out LZ2.out ?qm_3 ?qm_4 (.slice Al LL cl) LL (lc LM) ?qm_5 ((by have h:=HP5.out.ol;rw [HLL.out] at h;exact h.alloc _)) ⟨w5.heap.size,0,none⟩ 1 1 [.string nm2,.string fr2,.string tn2,.int .i64 kx2,.int .i64 ln2,.int .i64 up2,.int .i64 dn2,.string sx2,.int .i64 wd2,.int .i64 ht2,.slice A2 T2.length c2] ?qm_7 (rfl) (World.news_of_block (cs:=#[.string nm2,.string fr2,.string tn2,.int .i64 kx2,.int .i64 ln2,.int .i64 up2,.int .i64 dn2,.string sx2,.int .i64 wd2,.int .i64 ht2,.slice A2 T2.length c2]) (t:=64) (fr:=(0,0)) (heap_alloc_new _ _)) (by simp [Value.oneCell']) (h63_p HLB.out) (hby_q HLB.out) (zA9 HP5.out.size _) ?qm_14
       case qm_1=>exact rfl
       case qm_2=>exact rfl
       case qm_3=>exact rfl
       case qm_4=>decide
       case qm_5=>exact rfl
       case qm_7=>exact rfl
       intro u2 w7 hown2 hgrow2 hnil2 hat2
       obtain ⟨g2,cap2,rfl,hb2,hl2⟩:=hown2.form (by omega)
       have HO7:=LH hown2
       have HG7:=LH hgrow2
       have HAT7:=LH hat2
       have HN7:Hid (Blk w7 (w.heap.size+1+1) 25 #[.slice An NN cn,.slice Al LL cl]):=(HP5.out.nt.alloc _).grown hgrow2 (fun e=>by have h:=(HP5.out.ol.lt _ e.symm).1;omega)
       obtain ⟨o0,o1⟩:=zA3 HN7.out
       have f7:=HN7.out.frozen 1
       clear hown2 hgrow2 hnil2 hat2 hb2 hl2))
    go_roundw
    case measure=>exact HMS.out
    case rel=>
     have hp:=HP5.out.linkApp (p:=⟨⟨nm2,fr2,tn2,kx2,ln2,up2,dn2,sx2,wd2,ht2,T2⟩,A2,c2⟩) HU5.out (fun hn b off e=>HOWN.out b (HB6.out hn b off e)) (by rw [HLL.out];exact HO7.out) HG7.out (by have h:=HAT7.out;rw [sz_al] at h;exact h)
     refine ⟨k',i',i',ls++[l.data.toList++[10]],NM,LM++[⟨⟨nm2,fr2,tn2,kx2,ln2,up2,dn2,sx2,wd2,ht2,T2⟩,A2,c2⟩],_,_,rfl,rfl,rfl,?_,LH hp⟩
     ·have e1:lkx (LM++[⟨⟨nm2,fr2,tn2,kx2,ln2,up2,dn2,sx2,wd2,ht2,T2⟩,A2,c2⟩])=lkx LM++[⟨nm2,fr2,tn2,kx2,ln2,up2,dn2,sx2,wd2,ht2,T2⟩]:=by unfold lkx;simp
      show RqN _ _ _ _ _ _ _
      rw [e1]
      exact HSTEP.out _ _ (stp_lk (HY6.out rfl))
  |false=>
   have HBAD:Hid (NtIs netV s.data.toList [] [] k 7):=HFORM.out (stuck_no (fun h=>(HLZ.out h).elim) (HN6.out rfl))
   cases f1 with
   |true=>
    have HE5:=LH (HP5.out.err)
    obtain ⟨a0,a1⟩:=zA3 HE5.out.r0
    obtain ⟨p0,p1⟩:=zA3 HE5.out.r1
    have fa:=fun n=>HE5.out.r0.frozen n
    have fp:=fun n=>HE5.out.r1.frozen n
    go_wp2_with fail
    obtain ⟨hb0,hb1,hbl⟩:=HE5.out.out (.slice none 0 0) (.slice none 0 0) (.int .i64 k) (.int .i64 1)
    obtain ⟨s0,s1⟩:=zA3 hb0
    obtain ⟨s2,s3⟩:=zA3 hb1
    have HBL:=LH hbl
    clear hb0 hb1 hbl
    unfold st4 at s0 s1 s2 s3
    refine bodyPost_ret (v:=.tuple #[.agg #[.slice none 0 0,.slice none 0 0],.agg #[.int .i64 k,.int .i64 1],.int .i64 7]) (by simp [results,Tryz.results46,go_sem,s0,s1,s2,s3]) rfl ⟨[],[],k,7,none,none,0,0,HBAD.out,by rw [zH3 k (by have:=HR.out.kk;omega)];rfl,⟨by simp,.inl rfl⟩,⟨by simp,.inl rfl⟩,HBL.out⟩
   |false=>
    have HE5:=LH (HP5.out.err)
    obtain ⟨a0,a1⟩:=zA3 HE5.out.r0
    obtain ⟨p0,p1⟩:=zA3 HE5.out.r1
    have fa:=fun n=>HE5.out.r0.frozen n
    have fp:=fun n=>HE5.out.r1.frozen n
    go_wp2_with fail
    obtain ⟨hb0,hb1,hbl⟩:=HE5.out.out (.slice none 0 0) (.slice none 0 0) (.int .i64 k) (.int .i64 1)
    obtain ⟨s0,s1⟩:=zA3 hb0
    obtain ⟨s2,s3⟩:=zA3 hb1
    have HBL:=LH hbl
    clear hb0 hb1 hbl
    unfold st4 at s0 s1 s2 s3
    refine bodyPost_ret (v:=.tuple #[.agg #[.slice none 0 0,.slice none 0 0],.agg #[.int .i64 k,.int .i64 1],.int .i64 7]) (by simp [results,Tryz.results46,go_sem,s0,s1,s2,s3]) rfl ⟨[],[],k,7,none,none,0,0,HBAD.out,by rw [zH3 k (by have:=HR.out.kk;omega)];rfl,⟨by simp,.inl rfl⟩,⟨by simp,.inl rfl⟩,HBL.out⟩
end Go.Proofs.YtghefgifhebniaaGreatDoor

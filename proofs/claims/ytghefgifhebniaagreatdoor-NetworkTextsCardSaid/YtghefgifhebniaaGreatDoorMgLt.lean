/- Merged texts of these proofs: PrK, LTn. -/
import Derived.Test.YtghefgifhebniaaGreatDoorNPr
import Derived.Test.YtghefgifhebniaaGreatDoorMgV
import Derived.Test.YtghefgifhebniaaGreatDoorMgC
import Derived.Test.YtghefgifhebniaaGreatDoorMgA
import Derived.Test.YtghefgifhebniaaGreatDoorMgY
import Derived.Test.YtghefgifhebniaaGreatDoorMgW
import Derived.Test.YtghefgifhebniaaGreatDoorRpr
import Derived.Test.YtghefgifhebniaaGreatDoorMgK
namespace Go.Proofs.YtghefgifhebniaaGreatDoor
open Go.RowKit
set_option linter.unusedVariables false
set_option linter.unusedSimpArgs false
theorem ndx_len (M:List Ndm):(ndx M).length=M.length:=by simp [ndx]
theorem lkx_len (M:List Lkm):(lkx M).length=M.length:=by simp [lkx]
def PkPost (w:World) (N:List Ndr) (L:List Lkr) (e:Ending) (w':World):Prop:=
 ∃(NM:List Ndm) (LM:List Lkm) (NA LA:Option Addr) (cn cl:Nat),ndx NM=N∧lkx LM=L∧e= .returned (.tuple #[.agg #[.slice NA N.length cn,.slice LA L.length cl],.agg #[.int .i64 0,.int .i64 0],.int .i64 0])∧NdIn w' NA N.length (ndsM NM)∧LkIn w' LA L.length (lksM LM)∧Below w.heap.size w w'
theorem parse_net (s:ByteArray) (N:List Ndr) (L:List Lkr) (h:NtIs netV s.data.toList N L 0 0) (hs:s.size≤262144) (hN:N.length≤2000) (hL:L.length≤2000) (hr:Runs [] [] (rln s.data.toList) N L) (w:World) (hE:Env w):
 Calls Tryz.prog 45 #[.string s] w (PkPost w N L):=by
 refine (tnparse s (by omega) (fun N' L' h'=>by obtain ⟨rfl,rfl⟩:=h'.det hr;exact ⟨hN,hL⟩) w hE).mono ?_
 rintro e w' ⟨NM,LM,k,er,NA,LA,cn,cl,hnt,rfl,hnd,hlk,hb⟩
 obtain ⟨q1,q2,rfl,rfl⟩:=hnt.uniq h
 have l1:NM.length=N.length:=by rw [←q1,ndx_len]
 have l2:LM.length=L.length:=by rw [←q2,lkx_len]
 rw [l1] at hnd
 rw [l2] at hlk
 exact ⟨NM,LM,NA,LA,cn,cl,q1,q2,by rw [l1,l2];rfl,hnd,hlk,hb⟩
theorem tnparse_big (s:ByteArray) (hbig:262144<s.size) (w:World):
 Calls Tryz.prog 45 #[.string s] w (PaPost w s):=by
 have T0:decide ((262144:Int)<(s.size:Int))=true:=dT (by omega)
 have T0':decide (262144<s.size)=true:=dT hbig
 have HIS:Hid (NtIs netV s.data.toList (ndx []) (lkx []) 0 4):=.full hbig
 clear hbig
 go_enter Tryz.func45,Tryz.ntmps45
 go_wp2_with fail
 refine bodyPost_ret (v:=.tuple #[.agg #[.slice none 0 0,.slice none 0 0],.agg #[.int .i64 0,.int .i64 0],.int .i64 4]) (by simp [results,Tryz.results45,go_sem]) rfl ⟨[],[],0,4,none,none,0,0,HIS.out,rfl,⟨by simp,.inl rfl⟩,⟨by simp,.inl rfl⟩,?_⟩
 exact bel
open Go.RowKit Go.Sort
theorem NtIs.few {V:List Ndr→List Lkr→Prop} {s:List UInt8} {N:List Ndr} {L:List Lkr} {k:Nat} {e:Int} (h:NtIs V s N L k e) (hs:s.length≤10000∨262144<s.length):N.length≤2000∧L.length≤2000:=by
 cases h with
 |full=>exact ⟨Nat.zero_le _,Nat.zero_le _⟩
 |form=>exact ⟨Nat.zero_le _,Nat.zero_le _⟩
 |arg=>exact ⟨Nat.zero_le _,Nat.zero_le _⟩
 |ok _ _ a b=>exact runs_few (by omega) b
theorem NtIs.er {V:List Ndr→List Lkr→Prop} {s:List UInt8} {N:List Ndr} {L:List Lkr} {k:Nat} {e:Int} (h:NtIs V s N L k e):0≤e∧e≤7:=by
 cases h<;> decide
theorem lg_few2 {D:Nds} {K:Lks} {n m:Nat} (hl:¬lgP D n K m) (hP:netP D n K m):n≤40∧m≤60:=by
 have h1:=hP.1
 have h2:=hP.2.1
 have:=lg_not hl
 omega
theorem recN_cp {NM:List Ndm} {N:List Ndr} {n:Nat} (h:ndx NM=N) (hl:N.length=n):recN (ndsM NM) n=N:=by
 have l:NM.length=n:=by rw [←hl,←h];simp [ndx]
 rw [←l,ndsM_rec,h]
theorem recL_cp {LM:List Lkm} {L:List Lkr} {m:Nat} (h:lkx LM=L) (hl:L.length=m):recL (lksM LM) m=L:=by
 have l:LM.length=m:=by rw [←hl,←h];simp [lkx]
 rw [←l,lksM_rec,h]
def PcPost (w:World) (s:ByteArray) (e:Ending) (w':World):Prop:=
 ∃(NM:List Ndm) (LM:List Lkm) (n m k:Nat) (q er:Int) (NA LA:Option Addr) (cn cl:Nat),NtIs netV s.data.toList (ndx NM) (lkx LM) k er∧(q=if k=0 then 0 else 1)∧NM.length=n∧LM.length=m∧e= .returned (.tuple #[.agg #[.slice NA n cn,.slice LA m cl],.agg #[.int .i64 k,.int .i64 q],.int .i64 er])∧NdIn w' NA n (ndsM NM)∧LkIn w' LA m (lksM LM)∧Below w.heap.size w w'
theorem PaPost.cells {w w':World} {s:ByteArray} {e:Ending} (h:PaPost w s e w'):PcPost w s e w':=by
 obtain ⟨NM,LM,k,er,NA,LA,cn,cl,hnt,rfl,hnd,hlk,hb⟩:=h
 exact ⟨NM,LM,_,_,k,_,er,NA,LA,cn,cl,hnt,rfl,rfl,rfl,rfl,hnd,hlk,hb⟩
set_option maxRecDepth 100000 in
set_option maxHeartbeats 16000000 in
theorem nettexts (NA LA:Option Addr) (n nc m lc:Nat) (D:Nds) (K:Lks) (s:ByteArray) (w:World) (hD:NdIn w NA n D) (hK:LkIn w LA m K) (hE:Env w):
 Calls Tryz.prog 11 #[.agg #[.slice NA n nc,.slice LA m lc],.string s] w fun e w'=>e= .returned (.bool true)∧Below w.heap.size w w':=by
 have hal:Below w.heap.size w (w.alloc (Obj.cells #[.slice NA n nc,.slice LA m lc] 25)):=(bR _ w).alloc (nl _) _
 have HAL:=LH hal
 have HB0:Hid (Blk (w.alloc (Obj.cells #[.slice NA n nc,.slice LA m lc] 25)) w.heap.size 25 #[.slice NA n nc,.slice LA m lc]):=Blk.new _ _ _
 have HE0:=LH (hE.below hal)
 have HE:=LH hE
 have HD:=LH hD
 have HK:=LH hK
 clear hD hK hE hal
 obtain ⟨V,hV⟩:∃V,Hid (V=boolOf (lgP D n K m)):=⟨_,rfl⟩
 go_enter Tryz.func11,Tryz.ntmps11
 go_upto_region 3 with (first
  |(go_at_call 14
    with_reducible refine (awake26 _ HE0.out).mono ?_
    rintro e w1 ⟨rfl,hb1⟩
    have HB1:=LH (zA1 HAL.out hb1)
    have HBB:=LH (HB0.out.call hb1)
    clear hb1))
 obtain ⟨y0,y1⟩:=blk2 HBB.out
 have SL:Hid (Calls Tryz.prog 15 #[.agg #[.slice NA n nc,.slice LA m lc]] w1 fun e w'=>e= .returned (.bool V)∧Below w1.heap.size w1 w'):=by rw [hV.out];exact tlarge NA LA n nc m lc D K w1 (HD.out.below (nl _) HB1.out) (HK.out.below (nl _) HB1.out)
 clear HE0 HAL HB0
 by_cases hl:lgP D n K m
 ·obtain rfl:V=true:=hV.out.trans (zA2 hl)
  clear hl hV
  go_wp2_with (first
   |(go_at_call 15
     with_reducible refine SL.out.mono ?_
     rintro e w2 ⟨rfl,hb2⟩
     have HB2:=LH (zA1 HB1.out hb2)
     clear hb2))
  go_ret
  exact ⟨rfl,HB2.out⟩
 obtain rfl:V=false:=hV.out.trans (zA0 hl)
 have HLG:=LH hl
 clear hl hV
 by_cases hbig:262244<s.size
 ·have q1:decide ((5000:Int)<(s.size:Int))=true:=dT (by omega)
  have q1':decide (5000<s.size)=true:=dT (by omega)
  have q2:decide ((s.size:Int)≤262144)=false:=dF (by omega)
  have q2':decide (s.size≤262144)=false:=dF (by omega)
  have q3:decide ((262244:Int)<(s.size:Int))=true:=dT (by omega)
  have q3':decide (262244<s.size)=true:=dT hbig
  clear hbig
  go_wp2_with (first
   |(go_at_call 15
     with_reducible refine SL.out.mono ?_
     rintro e w2 ⟨rfl,hb2⟩
     have HB2:=LH (zA1 HB1.out hb2)
     clear hb2))
  go_ret
  exact ⟨rfl,HB2.out⟩
 by_cases hmid:5000<s.size∧s.size≤262144
 ·have q1:decide ((5000:Int)<(s.size:Int))=true:=dT (by omega)
  have q1':decide (5000<s.size)=true:=dT (by omega)
  have q2:decide ((s.size:Int)≤262144)=true:=dT (by omega)
  have q2':decide (s.size≤262144)=true:=dT (by omega)
  clear hbig hmid
  go_wp2_with (first
   |(go_at_call 15
     with_reducible refine SL.out.mono ?_
     rintro e w2 ⟨rfl,hb2⟩
     have HB2:=LH (zA1 HB1.out hb2)
     clear hb2))
  go_ret
  exact ⟨rfl,HB2.out⟩
 have SP:Hid (∀w',Env w'→Calls Tryz.prog 45 #[.string s] w' (PcPost w' s)):=fun w' hE=>by
  by_cases h:262144<s.size
  ·exact (tnparse_big s h w').mono fun _ _ h=>h.cells
  ·exact (tnparse s (by omega) (fun N L hr=>runs_few (by show s.size≤_;omega) hr) w' hE).mono fun _ _ h=>h.cells
 have SQ:Hid (∀w',Calls Tryz.prog 46 #[.string s] w' (PcPost w' s)):=fun w'=>by
  by_cases h:262144<s.size
  ·exact (rparse_big s h w').mono fun _ _ h=>h.cells
  ·exact (rparseN s (by omega) w').mono fun _ _ h=>h.cells
 have HFEW:Hid (s.data.toList.length≤10000∨262144<s.data.toList.length):=by show s.size≤_∨_<s.size;omega
 have HZ:=LH (lg_sz HLG.out)
 have q3:decide ((262244:Int)<(s.size:Int))=false:=dF (by omega)
 have q3':decide (262244<s.size)=false:=dF (by omega)
 have hcs:(decide ((5000:Int)<(s.size:Int))=false∧decide (5000<s.size)=false)∨(decide ((5000:Int)<(s.size:Int))=true∧decide (5000<s.size)=true∧decide ((s.size:Int)≤262144)=false∧decide (s.size≤262144)=false):=by
  by_cases h:5000<s.size
  ·exact .inr ⟨dT (by omega),dT h,dF (by omega),dF (by omega)⟩
  ·exact .inl ⟨dF (by omega),dF h⟩
 clear hbig hmid
 rcases hcs with ⟨q1,q1'⟩|⟨q1,q1',q2,q2'⟩
 all_goals
  go_upto_region 7 with (first
   |(go_at_call 15
     with_reducible refine SL.out.mono ?_
     rintro e w2 ⟨rfl,hb2⟩
     have HB2:=LH (zA1 HB1.out hb2)
     have HX2:=LH (HBB.out.call hb2)
     clear hb2)
   |(go_at_call 45
     refine (SP.out _ (HE.out.below HB2.out)).mono ?_
     rintro e w3 ⟨NM,LM,n1,m1,k1,p1,er1,NA1,LA1,cn1,cl1,hnt1,hp1,hn1,hm1,rfl,hnd1,hlk1,hb2⟩
     have HB3:=LH (zA1 HB2.out hb2)
     have HX3:=LH (HX2.out.call hb2)
     have HNT1:=LH hnt1
     have HQ1:=LH hp1
     have HNL1:Hid (NM.length=n1∧LM.length=m1):=⟨hn1,hm1⟩
     have HND1:=LH hnd1
     have HLK1:=LH hlk1
     clear hnt1 hp1 hn1 hm1 hnd1 hlk1 hb2)
   |(go_at_call 46
     refine (SQ.out _).mono ?_
     rintro e w4 ⟨NM2,LM2,n2,m2,k2,p2,er2,NA2,LA2,cn2,cl2,hnt2,hp2,hn2,hm2,rfl,hnd2,hlk2,hb2⟩
     have hal4:Below w3.heap.size w3 w4:=zA1 (((bR _ w3).alloc (nl _) (.cells #[.slice NA1 n1 cn1,.slice LA1 m1 cl1] 25)).alloc (by simp) (.cells #[.int .i64 (k1:Int),.int .i64 p1] 73)) hb2
     have HB4:=LH (zA1 HB3.out hal4)
     have HX4:=LH (HX3.out.call hal4)
     have HM4:Hid (Blk w4 w3.heap.size 25 #[.slice NA1 n1 cn1,.slice LA1 m1 cl1]):=(((Blk.new w3 25 #[.slice NA1 n1 cn1,.slice LA1 m1 cl1]).alloc (.cells #[.int .i64 (k1:Int),.int .i64 p1] 73))).call hb2
     have HP4:Hid (Blk w4 (w3.heap.size+1) 73 #[.int .i64 (k1:Int),.int .i64 p1]):=by
      have h:=Blk.new (w3.alloc (.cells #[.slice NA1 n1 cn1,.slice LA1 m1 cl1] 25)) 73 #[.int .i64 (k1:Int),.int .i64 p1]
      simp only [World.size_alloc] at h
      exact h.call hb2
     have HND4:=LH (HND1.out.below (nl _) hal4)
     have HLK4:=LH (HLK1.out.below (nl _) hal4)
     have HNT2:=LH hnt2
     have HQ2:=LH hp2
     have HNL2:Hid (NM2.length=n2∧LM2.length=m2):=⟨hn2,hm2⟩
     have HND2:=LH hnd2
     have HLK2:=LH hlk2
     clear hnt2 hp2 hn2 hm2 hnd2 hlk2 hb2 hal4))
  obtain ⟨u1,u2,u3,u4⟩:=HNT2.out.uniq HNT1.out
  obtain rfl:n2=n1:=by have h:=congrArg List.length u1;unfold ndx at h;rw [List.length_map,List.length_map,HNL1.out.1,HNL2.out.1] at h;exact h
  obtain rfl:m2=m1:=by have h:=congrArg List.length u2;unfold lkx at h;rw [List.length_map,List.length_map,HNL1.out.2,HNL2.out.2] at h;exact h
  subst u3 u4
  obtain rfl:p2=p1:=HQ2.out.trans HQ1.out.symm
  have hal5:Below w4.heap.size w4 ((w4.alloc (.cells #[.slice NA2 n2 cn2,.slice LA2 m2 cl2] 25)).alloc (.cells #[.int .i64 (k2:Int),.int .i64 p2] 73)):=((bR _ w4).alloc (nl _) _).alloc (by simp) _
  have HB5:=LH (zA1 HB4.out hal5)
  have HX5:=LH (HX4.out.call hal5)
  have HM5:=LH (HM4.out.call hal5)
  have HP5:=LH (HP4.out.call hal5)
  have HND5:=LH (HND4.out.below (nl _) hal5)
  have HLK5:=LH (HLK4.out.below (nl _) hal5)
  have HNE5:=LH (HND2.out.below (nl _) hal5)
  have HLE5:=LH (HLK2.out.below (nl _) hal5)
  have HW5:Hid (Blk ((w4.alloc (.cells #[.slice NA2 n2 cn2,.slice LA2 m2 cl2] 25)).alloc (.cells #[.int .i64 (k2:Int),.int .i64 p2] 73)) w4.heap.size 25 #[.slice NA2 n2 cn2,.slice LA2 m2 cl2]):=(Blk.new _ _ _).alloc _
  have HQ5:Hid (Blk ((w4.alloc (.cells #[.slice NA2 n2 cn2,.slice LA2 m2 cl2] 25)).alloc (.cells #[.int .i64 (k2:Int),.int .i64 p2] 73)) (w4.heap.size+1) 73 #[.int .i64 (k2:Int),.int .i64 p2]):=by
   have h:=Blk.new (w4.alloc (.cells #[.slice NA2 n2 cn2,.slice LA2 m2 cl2] 25)) 73 #[.int .i64 (k2:Int),.int .i64 p2]
   simp only [World.size_alloc] at h
   exact h
  obtain ⟨f2,f3⟩:=HNT2.out.few HFEW.out
  have hF2:n2≤2000:=by have h:=f2;unfold ndx at h;rw [List.length_map,HNL2.out.1] at h;exact h
  have hF3:m2≤2000:=by have h:=f3;unfold lkx at h;rw [List.length_map,HNL2.out.2] at h;exact h
  have her:=HNT2.out.er
  clear f2 f3 HNT2 HNT1 hal5 HQ2 HQ1 HB4 HX4 HM4 HP4 HND4 HLK4 HND2 HLK2 HND1 HLK1 HB3 HX3 HB2 HX2 SP SQ SL
  generalize ((w4.alloc (.cells #[.slice NA2 n2 cn2,.slice LA2 m2 cl2] 25)).alloc (.cells #[.int .i64 (k2:Int),.int .i64 p2] 73))=w5 at HB5 HX5 HM5 HP5 HND5 HLK5 HNE5 HLE5 HW5 HQ5⊢
  generalize w4.heap.size+1=g4 at HQ5⊢
  generalize w3.heap.size+1=g3 at HP5⊢
  generalize w4.heap.size=g2 at HW5⊢
  generalize w3.heap.size=g1 at HM5⊢
  have hsame:netS (ndsM NM) n2 (lksM LM) m2 (ndsM NM2) n2 (lksM LM2) m2:=by
   refine ⟨?_,?_⟩
   ·rw [recN_cp (N:=ndx NM) rfl (by unfold ndx;rw [List.length_map];exact HNL1.out.1),recN_cp (N:=ndx NM2) rfl (by unfold ndx;rw [List.length_map];exact HNL2.out.1)];exact u1.symm
   ·rw [recL_cp (L:=lkx LM) rfl (by unfold lkx;rw [List.length_map];exact HNL1.out.2),recL_cp (L:=lkx LM2) rfl (by unfold lkx;rw [List.length_map];exact HNL2.out.2)];exact u2.symm
  have SS0:=rsameNet NA1 LA1 NA2 LA2 n2 cn1 m2 cl1 n2 cn2 m2 cl2 (ndsM NM) (ndsM NM2) (lksM LM) (lksM LM2) w5 hF2 hF3 HND5.out HLK5.out HNE5.out HLE5.out
  rw [zA2 hsame] at SS0
  have SS:=LH SS0
  have t1:((er2:Int)!=er2)=false:=by simp
  have x0:IntKind.i64.wrap er2=er2:=by rw [IntKind.wrap_i64];omega
  obtain ⟨y0,y1⟩:=blk2 HX5.out
  obtain ⟨z0,z1⟩:=blk2 HM5.out
  obtain ⟨v0,v1⟩:=blk2 HW5.out
  clear SS0 hsame hF2 hF3 her u1 u2 HNL1 HNL2
  go_upto_region 9 with (first
   |(go_at_call 38
     with_reducible refine SS.out.mono ?_
     rintro e w6 ⟨rfl,hb2⟩
     have HB6:=LH (zA1 HB5.out hb2)
     have HX6:=LH (HX5.out.call hb2)
     obtain ⟨a0,a1⟩:=blk2 (HP5.out.call hb2)
     obtain ⟨b0,b1⟩:=blk2 (HQ5.out.call hb2)
     clear hb2))
  clear SS y0 y1 z0 z1 v0 v1 a0 a1 b0 b1 HB5 HX5 HM5 HP5 HND5 HLK5 HNE5 HLE5 HW5 HQ5 t1 x0
  obtain ⟨y0,y1⟩:=blk2 HX6.out
  have e0:(⟨#[]⟩:ByteArray).toList=[]:=by rw [zD0]
  by_cases hP:netP D n K m
  case neg=>
   have ST:Hid (Calls Tryz.prog 47 #[.agg #[.slice NA n nc,.slice LA m lc]] w6 fun e w'=>e= .returned (.tuple #[.string ⟨#[]⟩,.int .i64 1])∧Below w6.heap.size w6 w'):=tntext_bad NA LA n nc m lc D K HZ.out hP w6 (HD.out.below (nl _) HB6.out) (HK.out.below (nl _) HB6.out)
   have SV:Hid (∀w',Below w.heap.size w w'→Calls Tryz.prog 18 #[.agg #[.slice NA n nc,.slice LA m lc]] w' fun e w''=>e= .returned (.bool false)∧Below w'.heap.size w' w''):=fun w' hb=>by
        have:=wvalidN NA LA n nc m lc D K HZ.out w' (HD.out.below (nl _) hb) (HK.out.below (nl _) hb)
        rw [zA0 hP] at this
        exact this
   clear hP
   go_wp2_with (first
        |(go_at_call 47
          with_reducible refine ST.out.mono ?_
          rintro e w7 ⟨rfl,hb2⟩
          have HB7:=LH (zA1 HB6.out hb2)
          obtain ⟨y0,y1⟩:=blk2 (HX6.out.call hb2)
          clear hb2)
        |(go_at_call 18
          with_reducible refine (SV.out _ HB7.out).mono ?_
          rintro e w8 ⟨rfl,hb2⟩
          have HB8:=LH (zA1 HB7.out hb2)
          clear hb2))
   go_ret
   exact ⟨by first |rfl |simp [e0],HB8.out⟩
  obtain ⟨h40,h60⟩:=lg_few2 HLG.out hP
  have hv:=netV_of hP
  obtain ⟨N,hN⟩:∃N,recN D n=N:=⟨_,rfl⟩
  obtain ⟨L,hL⟩:∃L,recL K m=L:=⟨_,rfl⟩
  have hNl:N.length=n:=by rw [←hN,zL3]
  have hLl:L.length=m:=by rw [←hL,zL4]
  have hsm:=netT_small hv (by rw [zL3];omega) (by rw [zL4];omega)
  obtain ⟨T,hT⟩:∃T,(⟨(netT N L).toArray⟩:ByteArray)=T:=⟨_,rfl⟩
  rw [hN,hL] at hv hsm
  have ST:Hid (Calls Tryz.prog 47 #[.agg #[.slice NA n nc,.slice LA m lc]] w6 fun e w'=>e= .returned (.tuple #[.string T,.int .i64 0])∧Below w6.heap.size w6 w'):=by
   have:=tntext NA LA n nc m lc D K HZ.out hP h40 h60 w6 (HE.out.below HB6.out) (HD.out.below (nl _) HB6.out) (HK.out.below (nl _) HB6.out)
   rw [hN,hL,hT] at this
   exact this
  have SV:Hid (∀w',Below w.heap.size w w'→Calls Tryz.prog 18 #[.agg #[.slice NA n nc,.slice LA m lc]] w' fun e w''=>e= .returned (.bool true)∧Below w'.heap.size w' w''):=fun w' hb=>by
   have:=wvalidN NA LA n nc m lc D K HZ.out w' (HD.out.below (nl _) hb) (HK.out.below (nl _) hb)
   rw [zA2 hP] at this
   exact this
  have SR:Hid (∀w',Below w.heap.size w w'→Calls Tryz.prog 48 #[.agg #[.slice NA n nc,.slice LA m lc]] w' fun e w''=>e= .returned (.string T)∧Below w'.heap.size w' w''):=fun w' hb=>by
   have:=rtextN rlinkLine NA LA n nc m lc D K hP h40 h60 w' (HD.out.below (nl _) hb) (HK.out.below (nl _) hb)
   rw [hN,hL,hT] at this
   exact this
  have SB:Hid (∀w',Below w.heap.size w w'→Calls Tryz.prog 45 #[.string T] w' fun e w''=>∃(NM3:List Ndm) (LM3:List Lkm) (NA3 LA3:Option Addr) (c3 d3:Nat),ndx NM3=N∧lkx LM3=L∧e= .returned (.tuple #[.agg #[.slice NA3 n c3,.slice LA3 m d3],.agg #[.int .i64 0,.int .i64 0],.int .i64 0])∧NdIn w'' NA3 n (ndsM NM3)∧LkIn w'' LA3 m (lksM LM3)∧Below w'.heap.size w' w''):=fun w' hb=>by
   rw [←hT]
   have hr:Runs [] [] (rln (netT N L)) N L:=by
        obtain ⟨h1,h2⟩:=netV_forms hv
        unfold netT
        rw [rln_flat _ (netLn_ok h1 h2)]
        exact runs_net h1 h2
   have:=parse_net (⟨(netT N L).toArray⟩:ByteArray) N L (ntis_net hv hsm) (by show (netT N L).length≤_;exact hsm) (by omega) (by omega) hr w' (HE.out.below hb)
   unfold PkPost at this
   rw [hNl,hLl] at this
   exact this
  have HS3:Hid (∀(NM3:List Ndm) (LM3:List Lkm) (NA3 LA3:Option Addr) (c3 d3:Nat) (w':World),ndx NM3=N→lkx LM3=L→Below w.heap.size w w'→NdIn w' NA3 n (ndsM NM3)→LkIn w' LA3 m (lksM LM3)→Calls Tryz.prog 38 #[.agg #[.slice NA3 n c3,.slice LA3 m d3],.agg #[.slice NA n nc,.slice LA m lc]] w' fun e w''=>e= .returned (.bool true)∧Below w'.heap.size w' w''):=fun NM3 LM3 NA3 LA3 c3 d3 w' e1 e2 hb hnd hlk=>by
   have h:=rsameNet NA3 LA3 NA LA n c3 m d3 n nc m lc (ndsM NM3) D (lksM LM3) K w' (by omega) (by omega) hnd hlk (HD.out.below (nl _) hb) (HK.out.below (nl _) hb)
   have hr:netS (ndsM NM3) n (lksM LM3) m D n K m:=⟨by rw [recN_cp e1 hNl,hN],by rw [recL_cp e2 hLl,hL]⟩
   rw [zA2 hr] at h
   exact h
  have tt:(T.toList==T.toList)=true:=by simp
  clear hP hv hN hL hNl hLl hsm hT h40 h60
  go_wp2_with (first
   |(go_at_call 47
     with_reducible refine ST.out.mono ?_
     rintro e w7 ⟨rfl,hb2⟩
     have HB7:=LH (zA1 HB6.out hb2)
     have HX7:=LH (HX6.out.call hb2)
     obtain ⟨y0,y1⟩:=blk2 HX7.out
     clear hb2)
   |(go_at_call 18
     with_reducible refine (SV.out _ HB7.out).mono ?_
     rintro e w8 ⟨rfl,hb2⟩
     have HB8:=LH (zA1 HB7.out hb2)
     have HX8:=LH (HX7.out.call hb2)
     clear hb2)
   |(go_at_call 45
     refine (SB.out _ HB8.out).mono ?_
     rintro e w9 ⟨NM3,LM3,NA3,LA3,c3,d3,h1,h2,rfl,h3,h4,hb2⟩
     have HB9:=LH (zA1 HB8.out hb2)
     have HX9:=LH (HX8.out.call hb2)
     have HN3:Hid (ndx NM3=N∧lkx LM3=L):=⟨h1,h2⟩
     have HND3:=LH h3
     have HLK3:=LH h4
     have hal9:Below w9.heap.size w9 ((w9.alloc (.cells #[.slice NA3 n c3,.slice LA3 m d3] 25)).alloc (.cells #[.int .i64 0,.int .i64 0] 73)):=((bR _ w9).alloc (nl _) _).alloc (by simp) _
     have HAL9:=LH hal9
     have HY9:Hid (Blk ((w9.alloc (.cells #[.slice NA3 n c3,.slice LA3 m d3] 25)).alloc (.cells #[.int .i64 0,.int .i64 0] 73)) w9.heap.size 25 #[.slice NA3 n c3,.slice LA3 m d3]):=(Blk.new _ _ _).alloc _
     obtain ⟨y0,y1⟩:=blk2 (HX9.out.call hal9)
     clear h1 h2 h3 h4 hb2 hal9)
   |(go_at_call 48
     with_reducible refine (SR.out _ (zA1 HB9.out HAL9.out)).mono ?_
     rintro e wa ⟨rfl,hb2⟩
     have hba:Below w9.heap.size w9 wa:=zA1 HAL9.out hb2
     have HBa:=LH hba
     obtain ⟨y0,y1⟩:=blk2 (HX9.out.call hba)
     obtain ⟨v0,v1⟩:=blk2 (HY9.out.call hb2)
     clear hb2 hba)
   |(go_at_call 38
     with_reducible refine (HS3.out NM3 LM3 _ _ _ _ _ HN3.out.1 HN3.out.2 (zA1 HB9.out HBa.out) (HND3.out.below (nl _) HBa.out) (HLK3.out.below (nl _) HBa.out)).mono ?_
     rintro e wb ⟨rfl,hb2⟩
     have HBb:=LH (zA1 (zA1 HB9.out HBa.out) hb2)
     clear hb2))
  go_ret
  exact ⟨by first |rfl |simp,HBb.out⟩
end Go.Proofs.YtghefgifhebniaaGreatDoor

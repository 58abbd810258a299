/- Merged texts of these proofs: NRd, NRe, NRf, NRg. -/
import Derived.Test.YtghefgifhebniaaGreatDoorMgH
import Derived.Test.YtghefgifhebniaaGreatDoorMgI
import Derived.Test.YtghefgifhebniaaGreatDoorMgN
import Derived.Lib.Join
namespace Go.Proofs.YtghefgifhebniaaGreatDoor
open Go.RowKit
set_option linter.unusedVariables false
set_option linter.unnecessarySimpa false
set_option linter.unusedSimpArgs false
def zH8 (L:List (List UInt8)):List UInt8:=Lib.join L [32]
theorem zJ6 (a b:List UInt8) (r:List (List UInt8)):zH8 (a::b::r)=a++32::zH8 (b::r):=by
 unfold zH8
 rw [Lib.join_cons,Lib.join_cons]
 simp [Lib.joinTail]
theorem zJ7 (a:List UInt8):zH8 [a]=a:=Lib.join_one a [32]
theorem joinL_wds (l:List UInt8):zH8 (wds l)=l:=by
 induction l with
 |nil=>exact zJ7 []
 |cons c r ih=>
  unfold wds
  by_cases h:c=32
  ·rw [if_pos h]
   cases e:wds r with
   |nil=>exact absurd e (zH0 r)
   |cons a t=>
    rw [e] at ih
    rw [zJ6,ih,h];rfl
  ·rw [if_neg h]
   cases e:wds r with
   |nil=>exact absurd e (zH0 r)
   |cons a t=>
    rw [e] at ih
    cases t with
    |nil=>
     rw [zJ7] at ih
     show zH8 [c::a]=_
     rw [zJ7,ih]
    |cons b t=>
     rw [zJ6] at ih
     show zH8 ((c::a)::b::t)=_
     rw [zJ6,List.cons_append,ih]
theorem wds_joinL:∀{L:List (List UInt8)},L≠[]→(∀x,x∈L→(32:UInt8)∉x)→wds (zH8 L)=L
 |[],h,_=>absurd rfl h
 |[a],_,h=>by rw [zJ7,zD9 (h a (by simp))]
 |a::b::r,_,h=>by
  rw [zJ6,wds_first (h a (by simp)),wds_joinL (by simp) (fun x hx=>h x (by simp [hx]))]
theorem joinL_tail (a:List UInt8) (r:List (List UInt8)):(zH8 r).length≤(zH8 (a::r)).length∧a.length≤(zH8 (a::r)).length:=by
 cases r with
 |nil=>rw [zJ7];exact ⟨by simp [zH8,Lib.join_nil],nl _⟩
 |cons b r=>rw [zJ6];simp;omega
def WdAt (w:World) (g:Nat) (v:Value) (W:List ByteArray):Prop:=∃A c,v= .slice A W.length c∧W.length≤c∧W.length≤300001∧(zH8 (lm W)).length≤300000∧(W=[]∨∃b off,A=some ⟨b,off,none⟩∧b<w.heap.size∧b<g∧∀k,k<W.length→w.cell? ⟨b,off+k,none⟩=some (.string (W.getD k ByteArray.empty)))
def RdAt (w:World) (g:Nat) (W:List ByteArray) (o:Bool):Prop:=∃v,Blk w g 103 #[v,.bool o]∧WdAt w g v W
theorem WdAt.moved {w w':World} {g:Nat} {v:Value} {W:List ByteArray} (h:WdAt w g v W) (hg:w.grownBy w' (some g)):WdAt w' g v W:=by
 obtain ⟨A,c,h1,h2,h3,h4,h5⟩:=h
 refine ⟨A,c,h1,h2,h3,h4,?_⟩
 rcases h5 with h5 |⟨b,off,h5,h6,h7,h8⟩
 ·exact .inl h5
 ·exact .inr ⟨b,off,h5,Nat.lt_of_lt_of_le h6 hg.size,h7,fun k hk=>(hg.cell_far ⟨b,off+k,none⟩ h6 (fun e=>by have e2:b=g:=Option.some.inj e;omega)).trans (h8 k hk)⟩
theorem RdAt.call {w w':World} {g:Nat} {W:List ByteArray} {o:Bool} (h:RdAt w g W o) (hb:Below w.heap.size w w'):RdAt w' g W o:=by
 obtain ⟨v,h1,h2⟩:=h
 exact ⟨v,h1.call hb,h2.moved (zB1 hb _)⟩
theorem RdAt.lt {w:World} {g:Nat} {W:List ByteArray} {o:Bool} (h:RdAt w g W o):g<w.heap.size:=by obtain ⟨v,h1,_⟩:=h;exact h1.lt
theorem RdAt.set {w:World} {g X:Nat} {W:List ByteArray} {o:Bool} (h:RdAt w g W o) (hX:g<X) (i:Nat) (u:Value):RdAt (w.setCell ⟨X,i,none⟩ u) g W o:=by
 obtain ⟨v,h1,A,c,h2,h3,h4,h5,h6⟩:=h
 refine ⟨v,h1.far (by show g≠X;omega) u,A,c,h2,h3,h4,h5,?_⟩
 rcases h6 with h6 |⟨b,off,h6,h7,h8,h9⟩
 ·exact .inl h6
 ·exact .inr ⟨b,off,h6,by simp [World.setCell];exact h7,h8,fun k hk=>(World.cell?_of_block (Below.heap_setCell w ⟨X,i,none⟩ u b (by show b≠X;omega))).trans (h9 k hk)⟩
def WordPost (g:Nat) (W:List ByteArray) (o:Bool) (w:World) (e:Ending) (w':World):Prop:=
 ∃(s:ByteArray) (W':List ByteArray) (o':Bool),e= .returned (.string s)∧WordR W o s W' o'∧(W=s::W'∨s=⟨#[]⟩)∧RdAt w' g W' o'∧w.grownBy w' (some g)
theorem bytes_nil {h:ByteArray} (e:h.data.toList=[]):h=⟨#[]⟩:=by
 obtain ⟨⟨l⟩⟩:=h
 have:l=[]:=e
 rw [this]
theorem zD0 (b:ByteArray):b.toList=b.data.toList:=ByteArray.toList_eq b
theorem wd_tail {w:World} {g:Nat} {A:Option Addr} {c:Nat} {h:ByteArray} {t:List ByteArray} (hw:WdAt w g (.slice A (t.length+1) c) (h::t)):
 ∃b off,A=some ⟨b,off,none⟩∧b≠g∧t.length+1≤c∧w.cell? ⟨b,off,none⟩=some (.string h)∧(c=1→WdAt w g (.slice (some ⟨b,off,none⟩) 0 0) t)∧(c≠1→WdAt w g (.slice (some ⟨b,off+1,none⟩) t.length (c - 1)) t):=by
 obtain ⟨A',c',h1,h2,h3,h4,h5⟩:=hw
 cases h1
 simp only [List.length_cons] at h2 h3 h5
 rcases h5 with h5 |⟨b,off,h5,h6,h7,h8⟩
 ·cases h5
 ·refine ⟨b,off,h5,Nat.ne_of_lt h7,h2,by have:=h8 0 (by omega);simpa using this,fun hc=>?_,fun hc=>?_⟩
  ·have ht:t=[]:=List.eq_nil_of_length_eq_zero (by omega)
   subst ht
   exact ⟨_,_,rfl,by simp,by simp,by simp [lm,zH8,Lib.join_nil],.inl rfl⟩
  ·refine ⟨_,_,rfl,by omega,by omega,nT (joinL_tail _ _).1 h4,.inr ⟨b,off+1,rfl,h6,h7,fun k hk=>?_⟩⟩
   have:=h8 (k+1) (by omega)
   rw [show off+(k+1)=off+1+k by omega] at this
   simpa using this
set_option maxRecDepth 100000 in
set_option maxHeartbeats 4000000 in
theorem rdword (g:Nat) (W:List ByteArray) (o:Bool) (w:World) (h:RdAt w g W o):Calls Tryz.prog 78 #[.pointer (some ⟨g,0,none⟩)] w (WordPost g W o w):=by
 obtain ⟨v,hB,hV⟩:=h
 have y0:=hB.cell 0
 have y1:=hB.cell 1
 have f0:=hB.frozen 0
 have f1:=hB.frozen 1
 simp only [List.getElem?_toArray,List.getElem?_cons_zero,List.getElem?_cons_succ] at y0 y1
 have HBF:Hid (Blk (w.setCell ⟨g,1,none⟩ (.bool false)) g 103 #[v,.bool false]):=hB.set_ 1 _
 have HV:=LH hV
 obtain ⟨A,c,hv,hc,hl,hs,hr⟩:=hV
 subst hv
 cases W with
 |nil=>
  have T0:((0:Int)==0)=true:=by decide
  have HR:Hid (WordR [] o ⟨#[]⟩ [] false):=.inr ⟨fun h t e=>(by cases e),rfl,rfl⟩
  have HW:Hid (WdAt (w.setCell ⟨g,1,none⟩ (.bool false)) g (.slice A ([]:List ByteArray).length c) []):=HV.out.moved (zB5 w g 1 _)
  clear hB hr hs hl hc
  go_enter Tryz.func78,Tryz.ntmps78
  go_wp2_with fail
  go_ret
  exact ⟨_,[],false,rfl,HR.out,.inr rfl,⟨_,HBF.out,HW.out⟩,zB5 w g 1 _⟩
 |cons h t=>
  obtain ⟨N,hN⟩:∃N,t.length=N:=⟨_,rfl⟩
  obtain ⟨N1,hN1⟩:∃N1,(h::t).length=N1:=⟨_,rfl⟩
  have hNN:N1=N+1:=by rw [←hN1,←hN];rfl
  obtain ⟨b,off,hA,hbg,hcN,hc0,ht1,ht2⟩:=wd_tail HV.out
  subst hA
  rw [hN1] at y0 hc hl HV HBF
  rw [hN] at ht2 hcN
  have t0:((N1:Int)==0)=false:=by simp<;> omega
  have t0':decide (N1=0)=false:=dF (by omega)
  have k0:(0:Int)<(N1:Int):=by omega
  have k0':0<N1:=by omega
  have k1:(1:Int)≤(N1:Int):=by omega
  have k1':1≤N1:=by omega
  have k2:(N1:Int)≤(c:Int):=by omega
  by_cases he:h.data.toList=[]
  ·have hh:=bytes_nil he
   have HR:Hid (WordR (h::t) o ⟨#[]⟩ (h::t) false):=.inr ⟨fun h' t' e=>(by cases e;exact he),rfl,rfl⟩
   have HW:Hid (WdAt (w.setCell ⟨g,1,none⟩ (.bool false)) g (.slice (some ⟨b,off,none⟩) N1 c) (h::t)):=HV.out.moved (zB5 w g 1 _)
   subst hh
   clear hB hr hs hl hc ht1 ht2 he hcN hN hN1 hNN k2 hbg
   go_enter Tryz.func78,Tryz.ntmps78
   go_wp2_with fail
   go_ret
   exact ⟨_,_,false,rfl,HR.out,.inr rfl,⟨_,HBF.out,HW.out⟩,zB5 w g 1 _⟩
  ·have e1:¬h.toList=[]:=by rw [zD0];exact he
   have e2:(h.toList==[])=false:=by simpa using e1
   have HR:Hid (WordR (h::t) o h t o):=.inl ⟨rfl,he,rfl⟩
   by_cases hc1:c=1
   ·have hN0:N=0:=by omega
    have hN10:N1=1:=by omega
    have HW:Hid (WdAt (w.setCell ⟨g,0,none⟩ (.slice (some ⟨b,off,none⟩) 0 0)) g (.slice (some ⟨b,off,none⟩) 0 0) t):=(ht1 hc1).moved (zB5 w g 0 _)
    have HBS:Hid (Blk (w.setCell ⟨g,0,none⟩ (.slice (some ⟨b,off,none⟩) 0 0)) g 103 #[.slice (some ⟨b,off,none⟩) 0 0,.bool o]):=hB.set_ 0 _
    subst hc1 hN10
    clear hB hr hs hl hc ht1 ht2 he hcN hN hN1 hNN HV HBF hN0 k2 hbg
    go_enter Tryz.func78,Tryz.ntmps78
    go_wp2_with fail
    go_ret
    exact ⟨_,t,o,rfl,HR.out,.inl rfl,⟨_,HBS.out,HW.out⟩,zB5 w g 0 _⟩
   ·have hN3:N1 - 1=N:=by omega
    have HW:Hid (WdAt (w.setCell ⟨g,0,none⟩ (.slice (some ⟨b,off+1,none⟩) N (c - 1))) g (.slice (some ⟨b,off+1,none⟩) N (c - 1)) t):=(ht2 hc1).moved (zB5 w g 0 _)
    have HBS:Hid (Blk (w.setCell ⟨g,0,none⟩ (.slice (some ⟨b,off+1,none⟩) N (c - 1))) g 103 #[.slice (some ⟨b,off+1,none⟩) N (c - 1),.bool o]):=hB.set_ 0 _
    clear hB hr hs hl hc ht1 ht2 he hcN hN hN1 hNN HV HBF hbg
    go_enter Tryz.func78,Tryz.ntmps78
    go_wp2_with fail
    go_ret
    exact ⟨_,t,o,rfl,HR.out,.inl rfl,⟨_,HBS.out,HW.out⟩,zB5 w g 0 _⟩
def NumPost (g:Nat) (W:List ByteArray) (o:Bool) (w:World) (e:Ending) (w':World):Prop:=
 ∃(v:Int) (W':List ByteArray) (o':Bool),e= .returned (.int .i64 v)∧NumR W o v W' o'∧RdAt w' g W' o'∧w.grownBy w' (some g)∧∀x,x∈W'→x∈W
theorem RdAt.size {w:World} {g:Nat} {W:List ByteArray} {o:Bool} (h:RdAt w g W o):(zH8 (lm W)).length≤300000:=by
 obtain ⟨v,_,A,c,_,_,_,h5,_⟩:=h
 exact h5
theorem RdAt.fails {w:World} {g:Nat} {W:List ByteArray} {o:Bool} (h:RdAt w g W o):RdAt (w.setCell ⟨g,1,none⟩ (.bool false)) g W false:=by
 obtain ⟨v,h1,h2⟩:=h
 exact ⟨v,h1.set_ 1 _,h2.moved (zB5 w g 1 _)⟩
theorem RdAt.flag {w:World} {g:Nat} {W:List ByteArray} {o:Bool} (h:RdAt w g W o):w.cell? ⟨g,1,none⟩=some (.bool o)∧w.frozen? ⟨g,1,none⟩=false∧w.frozen? ⟨g,0,none⟩=false:=by
 obtain ⟨v,h1,_⟩:=h
 exact ⟨h1.cell 1,h1.frozen 1,h1.frozen 0⟩
theorem WordR.sub {W W':List ByteArray} {o o':Bool} {s:ByteArray} (h:WordR W o s W' o'):∀x,x∈W'→x∈W:=fun x hx=>by
 rcases h with ⟨a,_,_⟩|⟨_,a,_⟩
 ·rw [a];simp [hx]
 ·rw [a] at hx;exact hx
theorem num_bad {W W':List ByteArray} {s:ByteArray} (h:W=s::W'∨s=⟨#[]⟩) {o o':Bool} (hw:WordR W o s W' o') (hb:∀u,¬NumIs s.data.toList u) (v:Int):NumR W o v W' false:=by
 refine .inr ⟨fun h' t u e hn=>?_,rfl⟩
 rcases hw with ⟨a,_,_⟩|⟨a,_,_⟩
 ·rw [e] at a
  injection a with a1 a2
  subst a1
  exact hb u hn
 ·have:=a h' t e
  rw [this] at hn
  exact hn.ne rfl
theorem zD8 (s:ByteArray):s.data.toList.length=s.size:=rfl
set_option maxRecDepth 100000 in
set_option maxHeartbeats 4000000 in
theorem rdnum (g:Nat) (W:List ByteArray) (o:Bool) (w:World) (h:RdAt w g W o) (hE:∀w',w.grownBy w' (some g)→Env w'):Calls Tryz.prog 117 #[.pointer (some ⟨g,0,none⟩)] w (NumPost g W o w):=by
 have S1:=LH (rdword g W o w h)
 have HE:=LH hE
 have HSZ:=LH h.size
 clear h hE
 go_enter Tryz.func117,Tryz.ntmps117
 go_upto_region 2 with (first
  |(go_at_call 78
    with_reducible refine S1.out.mono ?_
    rintro e w1 ⟨s,W1,o1,rfl,hwr,hsz,hrd,hg1⟩
    have HWR:=LH hwr
    have HSW:=LH hsz
    have HRD:=LH hrd
    have HG1:=LH hg1
    clear hwr hsz hrd hg1))
 clear S1
 have hss:s.size≤300000:=by
  rcases HSW.out with hq |hq
  ·have h1:=HSZ.out
   rw [hq] at h1
   have:=(joinL_tail s.data.toList (lm W1)).2
   rw [zD8] at this
   exact nT this h1
  ·rw [hq];exact Nat.zero_le _
 by_cases hok:∃v,Lib.atoiAll s.data.toList= .ok v
 ·obtain ⟨v,hv⟩:=hok
  have SA:=LH (tatoi_ok s (by omega) v hv w1)
  have hbd:=Lib.atoiAll_bounds hv
  have SI:Hid (∀w',Env w'→Calls Tryz.prog 155 #[.int .i64 v] w' fun e w''=>e= .returned (.string ⟨(Lib.itoa v).toArray⟩)∧Below w'.heap.size w' w''):=fun w' he=>titoa v hbd.1 hbd.2 w' he
  have HV:=LH hv
  clear hbd hv hss
  by_cases heq:Lib.itoa v=s.data.toList
  ·have hs:(⟨(Lib.itoa v).toArray⟩:ByteArray)=s:=of_list heq
   rw [hs] at SI
   have HN:Hid (NumIs s.data.toList v):=⟨HV.out,heq⟩
   clear heq hs
   go_wp2_with (first
        |(go_at_call 154
          with_reducible refine SA.out.mono ?_
          rintro e w2 ⟨rfl,hb2⟩
          have HB2:=LH hb2
          have HE2:=LH (HE.out w2 (HG1.out.trans (zB1 hb2 _)))
          clear hb2)
        |(go_at_call 155
          with_reducible refine (SI.out _ HE2.out).mono ?_
          rintro e w3 ⟨rfl,hb3⟩
          have HB3:=LH (zA1 HB2.out hb3)
          clear hb3))
   go_ret
   refine ⟨v,W1,o1,rfl,?_,HRD.out.call HB3.out,HG1.out.trans (zB1 HB3.out _),HWR.out.sub⟩
   rcases HWR.out with ⟨a,b,c⟩|⟨a,b,c⟩
   ·exact .inl ⟨s,a,HN.out,c⟩
   ·exfalso
    rcases HSW.out with hq |hq
    ·have:=a s W1 hq
     exact HN.out.ne this
    ·exact HN.out.ne (by rw [hq])
  ·have hns:∀u,¬NumIs s.data.toList u:=fun u hu=>by
        have h1:=hu.1
        rw [HV.out] at h1
        have:=Lib.NumEnd.ok.inj h1
        subst this
        exact heq hu.2
   have HNB:=LH (num_bad HSW.out HWR.out hns v)
   obtain ⟨q,hq⟩:∃q:ByteArray,(⟨(Lib.itoa v).toArray⟩:ByteArray)=q:=⟨_,rfl⟩
   have hne:¬q.toList=s.toList:=fun e=>heq (by
        rw [zD0,zD0,←hq] at e
        simpa using e)
   have t1:(q.toList==s.toList)=false:=by simp [hne]
   rw [hq] at SI
   clear heq hns hq
   go_upto_region 4 with (first
        |(go_at_call 154
          with_reducible refine SA.out.mono ?_
          rintro e w2 ⟨rfl,hb2⟩
          have HB2:=LH hb2
          have HE2:=LH (HE.out w2 (HG1.out.trans (zB1 hb2 _)))
          clear hb2)
        |(go_at_call 155
          with_reducible refine (SI.out _ HE2.out).mono ?_
          rintro e w3 ⟨rfl,hb3⟩
          have HB3:=LH (zA1 HB2.out hb3)
          clear hb3))
   obtain ⟨y1,f1,f0⟩:=(HRD.out.call HB3.out).flag
   go_wp2_with fail
   go_ret
   exact ⟨v,W1,false,rfl,HNB.out,(HRD.out.call HB3.out).fails,(HG1.out.trans (zB1 HB3.out _)).trans (zB5 _ g 1 _),HWR.out.sub⟩
 ·have hno:∀v,Lib.atoiAll s.data.toList≠.ok v:=fun v hv=>hok ⟨v,hv⟩
  obtain ⟨n0,sa⟩:=zL2 s (by omega) hno
  have SA:=LH (sa w1 (HE.out w1 HG1.out))
  have HNB:=LH (num_bad HSW.out HWR.out (fun u hu=>hno u hu.1) n0)
  clear hno hok sa hss
  go_upto_region 4 with (first
   |(go_at_call 154
     with_reducible refine SA.out.mono ?_
     rintro e w2 ⟨N2,rfl,hb2⟩
     have HB2:=LH hb2
     clear hb2))
  obtain ⟨y1,f1,f0⟩:=(HRD.out.call HB2.out).flag
  go_wp2_with fail
  go_ret
  exact ⟨n0,W1,false,rfl,HNB.out,(HRD.out.call HB2.out).fails,(HG1.out.trans (zB1 HB2.out _)).trans (zB5 _ g 1 _),HWR.out.sub⟩
def TabPost2 (g:Nat) (W:List ByteArray) (o:Bool) (w:World) (e:Ending) (w':World):Prop:=
 ∃(T:List (Int×Int)) (A:Option Addr) (c:Nat) (W':List ByteArray) (o':Bool),e= .returned (.slice A T.length c)∧TabR W o T W' o'∧TabIn w' A T.length (kX T) (kY T)∧(∀b off,A=some ⟨b,off,none⟩→w.heap.size≤b)∧RdAt w' g W' o'∧w.grownBy w' (some g)
theorem joinL_kws (X Y:Nat→Int) (n:Nat):zH8 (kws X Y (n+1))=txL X Y (n+1):=by rw [←wds_tx,joinL_wds]
theorem twd_tl {n:Nat} {X Y:Nat→Int}:twd (tl n X Y)=kws X Y n:=by
 unfold twd
 rw [tl_len]
 unfold kws
 apply List.map_congr_left
 intro k hk
 have:=tl_at (X:=X) (Y:=Y) (List.mem_range.1 hk)
 rw [this.1,this.2]
theorem tabT_tl {n:Nat} {X Y:Nat→Int} (h:TabOK n X Y):tabT (tl n X Y):=by
 unfold tabT
 rw [tl_len]
 refine ⟨h.1,h.2.1,fun k hk=>?_⟩
 obtain ⟨a,b,c⟩:=h.2.2 k hk
 have e:=tl_at (X:=X) (Y:=Y) hk
 refine ⟨by rw [e.1];exact a,by rw [e.2];exact b,fun h0=>?_⟩
 have e2:=tl_at (X:=X) (Y:=Y) (n:=n) (k:=k - 1) (by omega)
 rw [e.1,e.2,e2.1,e2.2]
 exact c h0
theorem RdAt.emptied {w:World} {g:Nat} {W:List ByteArray} {o:Bool} (h:RdAt w g W o):RdAt (w.setCell ⟨g,0,none⟩ (.slice none 0 0)) g [] o:=by
 obtain ⟨v,h1,h2⟩:=h
 exact ⟨_,h1.set_ 0 _,none,0,rfl,by simp,by simp,by simp [lm,zH8,Lib.join_nil],.inl rfl⟩
set_option maxRecDepth 100000 in
set_option maxHeartbeats 4000000 in
theorem rdtab (g:Nat) (W:List ByteArray) (o:Bool) (w:World) (h:RdAt w g W o) (hw:∀b,b∈W→(32:UInt8)∉b.data.toList) (hE:∀w',w.grownBy w' (some g)→Env w'):Calls Tryz.prog 118 #[.pointer (some ⟨g,0,none⟩)] w (TabPost2 g W o w):=by
 have HSZ:=LH h.size
 have HE:=LH hE
 have H:=LH h
 obtain ⟨v,hB,A,c,hv,hc,hl,_,hr⟩:=h
 subst hv
 have y0:=hB.cell 0
 simp only [List.getElem?_toArray,List.getElem?_cons_zero] at y0
 have SJ:Hid (Calls Tryz.prog 50 #[.slice A W.length c,.string ⟨#[32]⟩] w fun e w'=>e= .returned (.string ⟨(zH8 (lm W)).toArray⟩)∧Below w.heap.size w w'):=by
  rcases hr with hr |⟨b,off,hA,hb,hbg,hcell⟩
  ·subst hr
   refine (Tryz.strings_Join_none A c ⟨#[32]⟩ w).mono ?_
   rintro e w' ⟨rfl,rfl⟩
   exact ⟨rfl,bR _ _⟩
  ·subst hA
   exact Tryz.strings_Join b off c W ⟨#[32]⟩ w (fun j x hj=>by
        have hjl:=(List.getElem?_eq_some_iff.1 hj).1
        rw [hcell j hjl]
        simp [List.getD,hj]) hb (by omega) hc (by
        show (zH8 (lm W)).length≤_
        have:=HSZ.out;omega)
 obtain ⟨j,hj⟩:∃j:ByteArray,(⟨(zH8 (lm W)).toArray⟩:ByteArray)=j:=⟨_,rfl⟩
 rw [hj] at SJ
 have hjl:j.data.toList=zH8 (lm W):=by rw [←hj]
 have hjs:j.size≤300000:=by
  rw [←zD8,hjl];exact HSZ.out
 have SP:Hid (∀w',Env w'→Calls Tryz.prog 156 #[.string j] w' (ParsePost w' j)):=fun w' he=>tparse j hjs w' he
 have HJ:=LH hjl
 have HWD:Hid (∀x,x∈lm W→(32:UInt8)∉x):=fun x hx=>by
  obtain ⟨b,hb,rfl⟩:=List.mem_map.1 hx
  exact hw b hb
 clear hB hr hl hc hw hE hjs hjl hj
 go_enter Tryz.func118,Tryz.ntmps118
 go_upto_region 2 with (first
  |(go_at_call 50
    with_reducible refine SJ.out.mono ?_
    rintro e w1 ⟨rfl,hb1⟩
    have HB1:=LH hb1
    have HE1:=LH (HE.out w1 (zB1 hb1 _))
    clear hb1)
  |(go_at_call 156
    with_reducible refine (SP.out _ HE1.out).mono ?_
    rintro e w2 (⟨n,X,Y,g2,cap,hok,htx,rfl,hg2,htab,hb2⟩|⟨hno,rfl,hb2⟩)))
 ·have HB2:=LH (zA1 HB1.out hb2)
  have HG2:Hid (w.heap.size≤g2):=nT HB1.out.size hg2
  have HOK:=LH hok
  have HTX:=LH htx
  have HTB:=LH htab
  obtain ⟨y1,f1,f0⟩:=(H.out.call HB2.out).flag
  have y2:=(HB2.out.cell (p:=⟨g,0,none⟩) H.out.lt).trans y0
  clear hb2 hg2 hok htx htab SJ SP
  go_wp2_with fail
  go_ret
  obtain ⟨n',hn'⟩:∃n',n=n'+1:=⟨n - 1,by have:=HOK.out.1;omega⟩
  have hlm:lm W=twd (tl n X Y):=by
   rw [twd_tl]
   have h1:=HTX.out
   rw [HJ.out] at h1
   have hne:lm W≠[]:=fun e=>by
        rw [e] at h1
        have h2:=congrArg List.length h1
        rw [hn',←joinL_kws] at h2
        have h3:=(joinL_tail (ktx (X 0) (Y 0)) ((List.range n').map fun k=>ktx (X (k+1)) (Y (k+1)))).2
        have h4:kws X Y (n'+1)=ktx (X 0) (Y 0)::(List.range n').map fun k=>ktx (X (k+1)) (Y (k+1)):=by
         unfold kws
         rw [List.range_succ_eq_map,List.map_cons,List.map_map]
         rfl
        rw [h4] at h2
        have h5:0<(ktx (X 0) (Y 0)).length:=by unfold ktx;simp only [List.length_append,List.length_cons];omega
        simp [zH8,Lib.join_nil] at h2 h3
        omega
   have h6:=congrArg wds h1
   rw [wds_joinL hne HWD.out,hn',wds_tx,←hn'] at h6
   exact h6
  have htl:=tl_len n X Y
  refine ⟨tl n X Y,some ⟨g2,0,none⟩,cap,[],o,by rw [htl];rfl,⟨rfl,.inl ⟨tabT_tl HOK.out,hlm,rfl⟩⟩,?_,fun b off e=>by cases e;exact HG2.out,((H.out.call HB2.out).emptied),(zB1 HB2.out _).trans (zB5 _ g 0 _)⟩
  rw [htl]
  refine ⟨by have:=HOK.out.2.1;omega,.inr ⟨g2,0,rfl,?_⟩⟩
  have hge:g2≠g:=fun e=>by have:=H.out.lt;have:=HG2.out;omega
  refine ⟨by rw [zK2];exact HTB.out.1,fun k hk=>?_⟩
  have e:=tl_at (X:=X) (Y:=Y) hk
  rw [e.1,e.2]
  obtain ⟨a,b⟩:=HTB.out.2 k hk
  exact ⟨(World.cell?_of_block (zF2 hge)).trans a,(World.cell?_of_block (zF2 hge)).trans b⟩
 ·have HB2:=LH (zA1 HB1.out hb2)
  have HNO:=LH hno
  obtain ⟨y1,f1,f0⟩:=(H.out.call HB2.out).flag
  have y2:=(HB2.out.cell (p:=⟨g,0,none⟩) H.out.lt).trans y0
  have f2:((w2.setCell ⟨g,1,none⟩ (.bool false)).frozen? ⟨g,0,none⟩)=false:=by rw [World.frozen?_setCell];exact f0
  clear hb2 hno SJ SP
  go_wp2_with fail
  go_ret
  have hno:∀U,tabT U→lm W≠twd U:=fun U hU e=>by
   have h1:1≤U.length:=hU.1
   obtain ⟨n',hn'⟩:∃n',U.length=n'+1:=⟨U.length - 1,by omega⟩
   refine HNO.out U.length (kX U) (kY U) hU ?_
   rw [HJ.out,e]
   unfold twd
   rw [hn',joinL_kws]
  exact ⟨[],none,0,[],false,rfl,⟨rfl,.inr ⟨hno,rfl,rfl⟩⟩,⟨by simp,.inl rfl⟩,fun b off e=>(by cases e),((H.out.call HB2.out).fails).emptied,((zB1 HB2.out _).trans (zB5 _ g 1 _)).trans (zB5 _ g 0 _)⟩
def ncs (x:Ndr) (A:Option Addr) (c:Nat):List Value:=[.string x.nm,.int .i64 x.kd,.int .i64 x.ax,.int .i64 x.ay,.int .i64 x.iv,.int .i64 x.gd,.slice A x.T.length c,.bool x.pt,.int .i64 x.rs]
def NodePost (kd:Int) (g:Nat) (W:List ByteArray) (o:Bool) (w:World) (e:Ending) (w':World):Prop:=
 ∃(x:Ndr) (A:Option Addr) (c:Nat) (W':List ByteArray) (o':Bool),e= .returned (.agg (ncs x A c).toArray)∧NodeR kd W o x W' o'∧TabIn w' A x.T.length (kX x.T) (kY x.T)∧RdAt w' g W' o'∧w.grownBy w' (some g)∧∀b off,A=some ⟨b,off,none⟩→w.heap.size≤b
structure NdM (w:World) (g R X:Nat) (cs:Array Value) (W:List ByteArray) (o:Bool) (wr:World):Prop where
 x:Blk wr X 55 cs
 r:Blk wr R 55 #[.string ⟨#[]⟩,.int .i64 0,.int .i64 0,.int .i64 0,.int .i64 0,.int .i64 0,.slice none 0 0,.bool false,.int .i64 0]
 rd:RdAt wr g W o
 gr:w.grownBy wr (some g)
 gR:g<w.heap.size
 Rw:w.heap.size≤R
 RX:R<X
theorem NdM.step {w wr w':World} {g R X:Nat} {cs:Array Value} {W W':List ByteArray} {o o':Bool} (h:NdM w g R X cs W o wr) (hr:RdAt w' g W' o') (hg:wr.grownBy w' (some g)):NdM w g R X cs W' o' w':=by
 have h1:=h.gR
 have h2:=h.Rw
 have h3:=h.RX
 exact ⟨h.x.grown hg (fun e=>by have:=Option.some.inj e;omega),h.r.grown hg (fun e=>by have:=Option.some.inj e;omega),hr,h.gr.trans hg,h1,h2,h3⟩
theorem NdM.put {w wr:World} {g R X:Nat} {cs:Array Value} {W:List ByteArray} {o:Bool} (h:NdM w g R X cs W o wr) (i:Nat) (u:Value):NdM w g R X (cs.setIfInBounds i u) W o (wr.setCell ⟨X,i,none⟩ u):=by
 have h1:=h.gR
 have h2:=h.Rw
 have h3:=h.RX
 refine ⟨h.x.set_ i u,h.r.far (by show R≠X;omega) u,h.rd.set (by omega) i u,?_,h1,h2,h3⟩
 have hs:=zB5 wr X i u
 exact ⟨hs.os.trans h.gr.os,hs.tape.trans h.gr.tape,hs.output.trans h.gr.output,nT h.gr.size hs.size,fun k hk hne=>(hs.block k (by have:=h.gr.size;omega) (fun e=>by have:=Option.some.inj e;omega)).trans (h.gr.block k hk hne)⟩
theorem NdM.env {w wr:World} {g R X:Nat} {cs:Array Value} {W:List ByteArray} {o:Bool} (h:NdM w g R X cs W o wr) (hE:∀w',w.grownBy w' (some g)→Env w'):∀w',wr.grownBy w' (some g)→Env w':=fun w' hg=>hE w' (h.gr.trans hg)
theorem zD7 {w:World} {g:Nat} {t:TypeId} {a b c d e f i j k:Value} (h:Blk w g t #[a,b,c,d,e,f,i,j,k]):(w.cell? ⟨g,0,none⟩=some a∧w.cell? ⟨g,1,none⟩=some b∧w.cell? ⟨g,2,none⟩=some c∧w.cell? ⟨g,3,none⟩=some d∧w.cell? ⟨g,4,none⟩=some e∧w.cell? ⟨g,5,none⟩=some f∧w.cell? ⟨g,6,none⟩=some i∧w.cell? ⟨g,7,none⟩=some j∧w.cell? ⟨g,8,none⟩=some k)∧∀n,w.frozen? ⟨g,n,none⟩=false:=
 ⟨⟨h.cell 0,h.cell 1,h.cell 2,h.cell 3,h.cell 4,h.cell 5,h.cell 6,h.cell 7,h.cell 8⟩,fun n=>h.frozen n⟩
theorem TabIn.set {w:World} {A:Option Addr} {n X i:Nat} {F G:Nat→Int} (h:TabIn w A n F G) (hA:∀b off,A=some ⟨b,off,none⟩→X<b) (u:Value):TabIn (w.setCell ⟨X,i,none⟩ u) A n F G:=by
 refine ⟨h.1,?_⟩
 rcases h.2 with h0 |⟨b,off,hb,h1,h2⟩
 ·exact .inl h0
 ·have:=hA b off hb
  have hk:=Below.heap_setCell w ⟨X,i,none⟩ u b (by show b≠X;omega)
  exact .inr ⟨b,off,hb,by simp [World.setCell];exact h1,fun k hk2=>⟨(World.cell?_of_block hk).trans (h2 k hk2).1,(World.cell?_of_block hk).trans (h2 k hk2).2⟩⟩
theorem zF7 {w wr w':World} {g R:Nat} (h:w.grownBy wr (some g)) (hR:w.heap.size≤R) (hs:wr.grownBy w' (some R)):w.grownBy w' (some g):=
 ⟨hs.os.trans h.os,hs.tape.trans h.tape,hs.output.trans h.output,nT h.size hs.size,fun k hk hne=>(hs.block k (by have:=h.size;omega) (fun e=>by have:=Option.some.inj e;omega)).trans (h.block k hk hne)⟩
def st9 (wr:World) (R:Nat) (a b c d e f i j k:Value):World:=((((((((wr.setCell ⟨R,0,none⟩ a).setCell ⟨R,1,none⟩ b).setCell ⟨R,2,none⟩ c).setCell ⟨R,3,none⟩ d).setCell ⟨R,4,none⟩ e).setCell ⟨R,5,none⟩ f).setCell ⟨R,6,none⟩ i).setCell ⟨R,7,none⟩ j).setCell ⟨R,8,none⟩ k
theorem nd_out {w wr:World} {g R X:Nat} {cs:Array Value} {W:List ByteArray} {o:Bool} (h:NdM w g R X cs W o wr) (a b c d e f i j k:Value):
 Blk (st9 wr R a b c d e f i j k) R 55 #[a,b,c,d,e,f,i,j,k]∧RdAt (st9 wr R a b c d e f i j k) g W o∧w.grownBy (st9 wr R a b c d e f i j k) (some g):=by
 have h1:=h.gR
 have h2:=h.Rw
 have hR:g<R:=by omega
 unfold st9
 have hbk:=((((((((h.r.set_ 0 a).set_ 1 b).set_ 2 c).set_ 3 d).set_ 4 e).set_ 5 f).set_ 6 i).set_ 7 j).set_ 8 k
 simp only [sA,sB,sC] at hbk
 refine ⟨hbk,((((((((h.rd.set hR 0 a).set hR 1 b).set hR 2 c).set hR 3 d).set hR 4 e).set hR 5 f).set hR 6 i).set hR 7 j).set hR 8 k,?_⟩
 exact zF7 (zF7 (zF7 (zF7 (zF7 (zF7 (zF7 (zF7 (zF7 h.gr h2 (zB5 _ R 0 a)) h2 (zB5 _ R 1 b)) h2 (zB5 _ R 2 c)) h2 (zB5 _ R 3 d)) h2 (zB5 _ R 4 e)) h2 (zB5 _ R 5 f)) h2 (zB5 _ R 6 i)) h2 (zB5 _ R 7 j)) h2 (zB5 _ R 8 k)
theorem TabIn.st9 {w:World} {A:Option Addr} {n R:Nat} {F G:Nat→Int} (h:TabIn w A n F G) (hA:∀b off,A=some ⟨b,off,none⟩→R<b) (a b c d e f i j k:Value):TabIn (st9 w R a b c d e f i j k) A n F G:=
 ((((((((h.set hA a).set hA b).set hA c).set hA d).set hA e).set hA f).set hA i).set hA j).set hA k
theorem TabIn.none' (w:World) (F G:Nat→Int):TabIn w none 0 F G:=⟨by omega,.inl rfl⟩
theorem bytes_neq {a b:ByteArray} (h:a≠b):¬a.toList=b.toList:=fun e=>h (zD4 (by rw [←zD0,←zD0];exact e))
set_option maxRecDepth 100000 in
set_option maxHeartbeats 8000000 in
theorem rdnode (kd:Int) (kb:ByteArray) (hkd:(kd=1∧kb=⟨#[109,97,110,104,111,108,101]⟩)∨(kd=2∧kb=⟨#[116,97,110,107]⟩)∨(kd=3∧kb=⟨#[111,117,116,102,97,108,108]⟩)) (g:Nat) (W:List ByteArray) (o:Bool) (w:World) (h:RdAt w g W o) (hw:∀b,b∈W→(32:UInt8)∉b.data.toList) (hE:∀w',w.grownBy w' (some g)→Env w'):
 Calls Tryz.prog 79 #[.pointer (some ⟨g,0,none⟩),.string kb] w (NodePost kd g W o w):=by
 have HE:=LH hE
 have HW:=LH hw
 have HKD:=LH hkd
 have HGL:=LH h.lt
 have hal:Below w.heap.size w (w.alloc (Obj.cells #[.string ⟨#[]⟩,.int .i64 0,.int .i64 0,.int .i64 0,.int .i64 0,.int .i64 0,.slice none 0 0,.bool false,.int .i64 0] 55)):=(bR _ w).alloc (nl _) _
 have S1:=LH (rdword g W o _ (h.call hal))
 have HAL:=LH hal
 have SN:Hid (∀W o w',RdAt w' g W o→(∀w'',w'.grownBy w'' (some g)→Env w'')→Calls Tryz.prog 117 #[.pointer (some ⟨g,0,none⟩)] w' (NumPost g W o w')):=fun W o w' h he=>rdnum g W o w' h he
 clear h hw hE hal hkd
 go_enter Tryz.func79,Tryz.ntmps79
 go_upto_region 2 with (first
  |(go_at_call 78
    with_reducible refine S1.out.mono ?_
    rintro e w1 ⟨s,W1,o1,rfl,hwr,hsz,hrd,hg1⟩
    have HWR:=LH hwr
    have HSW:=LH hsz
    have HRD:=LH hrd
    have HG1:=LH hg1
    clear hwr hsz hrd hg1))
 clear S1
 have HM:Hid (NdM w g w.heap.size w1.heap.size #[.string s,.int .i64 0,.int .i64 0,.int .i64 0,.int .i64 0,.int .i64 0,.slice none 0 0,.bool false,.int .i64 0] W1 o1 (w1.alloc (Obj.cells #[.string s,.int .i64 0,.int .i64 0,.int .i64 0,.int .i64 0,.int .i64 0,.slice none 0 0,.bool false,.int .i64 0] 55))):=by
  have hb1:Below w1.heap.size w1 (w1.alloc (Obj.cells #[.string s,.int .i64 0,.int .i64 0,.int .i64 0,.int .i64 0,.int .i64 0,.slice none 0 0,.bool false,.int .i64 0] 55)):=(bR _ w1).alloc (nl _) _
  have hgl:=HGL.out
  have hrr:=((Blk.new w 55 #[.string ⟨#[]⟩,.int .i64 0,.int .i64 0,.int .i64 0,.int .i64 0,.int .i64 0,.slice none 0 0,.bool false,.int .i64 0]).grown HG1.out (fun e=>by have:=Option.some.inj e;omega))
  exact ⟨Blk.new _ _ _,hrr.call hb1,HRD.out.call hb1,((zB1 HAL.out (some g)).trans HG1.out).trans (zB1 hb1 _),hgl,nl _,hrr.lt⟩
 clear HAL HRD HG1
 generalize w1.alloc (Obj.cells #[.string s,.int .i64 0,.int .i64 0,.int .i64 0,.int .i64 0,.int .i64 0,.slice none 0 0,.bool false,.int .i64 0] 55)=w2 at HM⊢
 generalize w1.heap.size=X at HM⊢
 obtain ⟨⟨y0,y1,y2,y3,y4,y5,y6,y7,y8⟩,fy⟩:=zD7 HM.out.x
 go_upto_region 3 with (first
  |(go_at_call 117
    with_reducible refine (SN.out _ _ _ HM.out.rd (HM.out.env HE.out)).mono ?_
    rintro e w3 ⟨v3,W3,o3,rfl,hn3,hrd3,hg3,hs3⟩
    have HN3:=LH hn3
    have HM3:=LH (HM.out.step hrd3 hg3)
    have HS3:=LH hs3
    clear hn3 hrd3 hg3 hs3)
  |(go_at_call 117
    with_reducible refine (SN.out _ _ _ HM3.out.rd (HM3.out.env HE.out)).mono ?_
    rintro e w4 ⟨v4,W4,o4,rfl,hn4,hrd4,hg4,hs4⟩
    have HN4:=LH hn4
    have HM4:=LH (HM3.out.step hrd4 hg4)
    obtain ⟨⟨y0,y1,y2,y3,y4,y5,y6,y7,y8⟩,fy⟩:=zD7 HM4.out.x
    have HS4:=LH hs4
    clear hn4 hrd4 hg4 hs4))
 have HM5:Hid (NdM w g w.heap.size X #[.string s,.int .i64 0,.int .i64 v3,.int .i64 v4,.int .i64 0,.int .i64 0,.slice none 0 0,.bool false,.int .i64 0] W4 o4 ((w4.setCell ⟨X,2,none⟩ (.int .i64 v3)).setCell ⟨X,3,none⟩ (.int .i64 v4))):=(HM4.out.put 2 _).put 3 _
 clear HM HM3 HM4 y0 y1 y2 y3 y4 y5 y6 y7 y8 fy
 generalize (w4.setCell ⟨X,2,none⟩ (.int .i64 v3)).setCell ⟨X,3,none⟩ (.int .i64 v4)=w5 at HM5⊢
 obtain ⟨⟨y0,y1,y2,y3,y4,y5,y6,y7,y8⟩,fy⟩:=zD7 HM5.out.x
 go_upto_region 4 with (first
  |(go_at_call 117
    with_reducible refine (SN.out _ _ _ HM5.out.rd (HM5.out.env HE.out)).mono ?_
    rintro e w6 ⟨v6,W6,o6,rfl,hn6,hrd6,hg6,hs6⟩
    have HN6:=LH hn6
    have HM6:=LH (HM5.out.step hrd6 hg6)
    have HS6:=LH hs6
    clear hn6 hrd6 hg6 hs6)
  |(go_at_call 117
    with_reducible refine (SN.out _ _ _ HM6.out.rd (HM6.out.env HE.out)).mono ?_
    rintro e w7 ⟨v7,W7,o7,rfl,hn7,hrd7,hg7,hs7⟩
    have HN7:=LH hn7
    have HM7:=LH (HM6.out.step hrd7 hg7)
    have HS7:=LH hs7
    obtain ⟨⟨y0,y1,y2,y3,y4,y5,y6,y7,y8⟩,fy⟩:=zD7 HM7.out.x
    clear hn7 hrd7 hg7 hs7))
 have HM8:Hid (NdM w g w.heap.size X #[.string s,.int .i64 0,.int .i64 v3,.int .i64 v4,.int .i64 v6,.int .i64 v7,.slice none 0 0,.bool false,.int .i64 0] W7 o7 ((w7.setCell ⟨X,4,none⟩ (.int .i64 v6)).setCell ⟨X,5,none⟩ (.int .i64 v7))):=(HM7.out.put 4 _).put 5 _
 clear HM5 HM6 HM7 y0 y1 y2 y3 y4 y5 y6 y7 y8 fy
 generalize (w7.setCell ⟨X,4,none⟩ (.int .i64 v6)).setCell ⟨X,5,none⟩ (.int .i64 v7)=w8 at HM8⊢
 have HWW:Hid (∀b,b∈W7→(32:UInt8)∉b.data.toList):=fun b hb=>HW.out b (HWR.out.sub b (HS3.out b (HS4.out b (HS6.out b (HS7.out b hb)))))
 have ST:Hid (∀W o w',RdAt w' g W o→(∀b,b∈W→(32:UInt8)∉b.data.toList)→(∀w'',w'.grownBy w'' (some g)→Env w'')→Calls Tryz.prog 118 #[.pointer (some ⟨g,0,none⟩)] w' (TabPost2 g W o w')):=fun W o w' h hw he=>rdtab g W o w' h hw he
 clear HW HS3 HS4 HS6 HS7 HSW
 rcases HKD.out with ⟨hk1,hk2⟩|⟨hk1,hk2⟩|⟨hk1,hk2⟩
 ·subst hk1 hk2
  clear HKD
  obtain ⟨⟨y0,y1,y2,y3,y4,y5,y6,y7,y8⟩,fy⟩:=zD7 HM8.out.x
  go_upto_region 15 with (first
   |(go_at_call 118
     with_reducible refine (ST.out _ _ _ HM8.out.rd HWW.out (HM8.out.env HE.out)).mono ?_
     rintro e w9 ⟨T,A9,c9,W9,o9,rfl,ht9,htb9,hta9,hrd9,hg9⟩
     have HT9:=LH ht9
     have HTB9:=LH htb9
     have HTA9:Hid (∀b off,A9=some ⟨b,off,none⟩→X<b):=fun b off e=>Nat.lt_of_lt_of_le HM8.out.x.lt (hta9 b off e)
     have HM9:=LH (HM8.out.step hrd9 hg9)
     obtain ⟨⟨y0,y1,y2,y3,y4,y5,y6,y7,y8⟩,fy⟩:=zD7 HM9.out.x
     clear ht9 htb9 hta9 hrd9 hg9))
  have HM10:Hid (NdM w g w.heap.size X #[.string s,.int .i64 1,.int .i64 v3,.int .i64 v4,.int .i64 v6,.int .i64 v7,.slice A9 T.length c9,.bool false,.int .i64 0] W9 o9 ((w9.setCell ⟨X,1,none⟩ (.int .i64 1)).setCell ⟨X,6,none⟩ (.slice A9 T.length c9))):=(HM9.out.put 1 _).put 6 _
  have HTB10:=LH ((HTB9.out.set HTA9.out (i:=1) (.int .i64 1)).set HTA9.out (i:=6) (.slice A9 T.length c9))
  clear HM8 HM9 HTB9 y0 y1 y2 y3 y4 y5 y6 y7 y8 fy
  generalize (w9.setCell ⟨X,1,none⟩ (.int .i64 1)).setCell ⟨X,6,none⟩ (.slice A9 T.length c9)=w10 at HM10 HTB10⊢
  obtain ⟨⟨y0,y1,y2,y3,y4,y5,y6,y7,y8⟩,fy⟩:=zD7 HM10.out.x
  obtain ⟨⟨r0,r1,r2,r3,r4,r5,r6,r7,r8⟩,fr⟩:=zD7 HM10.out.r
  go_wp2_with fail
  obtain ⟨hbE,hrE,hgE⟩:=nd_out HM10.out (.string s) (.int .i64 1) (.int .i64 v3) (.int .i64 v4) (.int .i64 v6) (.int .i64 v7) (.slice A9 T.length c9) (.bool false) (.int .i64 0)
  unfold st9 at hbE hrE hgE
  refine bodyPost_ret (v:=.agg #[.string s,.int .i64 1,.int .i64 v3,.int .i64 v4,.int .i64 v6,.int .i64 v7,.slice A9 T.length c9,.bool false,.int .i64 0]) (results_cell_row (by rfl) _ _ w.heap.size 55 _ (0,0) _ (by rfl) hbE Tryz.underlying55 (by rfl) (by kernel_rfl)) rfl ⟨⟨s,1,v3,v4,v6,v7,T,false,0⟩,A9,c9,W9,o9,rfl,⟨W1,W3,W4,W6,W7,o1,o3,o4,o6,o7,HWR.out,HN3.out,HN4.out,HN6.out,HN7.out,rfl,.inl ⟨rfl,HT9.out,rfl,rfl⟩⟩,HTB10.out.st9 (fun b off e=>Nat.lt_trans HM10.out.RX (HTA9.out b off e)) (.string s) (.int .i64 1) (.int .i64 v3) (.int .i64 v4) (.int .i64 v6) (.int .i64 v7) (.slice A9 T.length c9) (.bool false) (.int .i64 0),hrE,hgE,fun b off e=>by have h1:=HTA9.out b off e;have h2:=HM10.out.RX;have h3:=HM10.out.Rw;omega⟩
 ·subst hk1 hk2
  clear HKD
  obtain ⟨⟨y0,y1,y2,y3,y4,y5,y6,y7,y8⟩,fy⟩:=zD7 HM8.out.x
  go_upto_region 9 with fail
  have HM9:Hid (NdM w g w.heap.size X #[.string s,.int .i64 2,.int .i64 v3,.int .i64 v4,.int .i64 v6,.int .i64 v7,.slice none 0 0,.bool false,.int .i64 0] W7 o7 (w8.setCell ⟨X,1,none⟩ (.int .i64 2))):=HM8.out.put 1 _
  clear HM8 y0 y1 y2 y3 y4 y5 y6 y7 y8 fy
  generalize w8.setCell ⟨X,1,none⟩ (.int .i64 2)=w9 at HM9⊢
  obtain ⟨vr,hvb,hvw⟩:=HM9.out.rd
  have z0:=hvb.cell 0
  simp only [List.getElem?_toArray,List.getElem?_cons_zero] at z0
  by_cases hdash:∃t,W7=⟨#[45]⟩::t
  ·obtain ⟨t,ht⟩:=hdash
   obtain ⟨N,hN⟩:∃N,W7.length=N:=⟨_,rfl⟩
   have hNt:N=t.length+1:=by rw [←hN,ht];rfl
   have hvw2:=hvw
   obtain ⟨A0,c0,hvr,_⟩:=hvw2
   subst hvr
   rw [hN] at z0
   have hlen:W7.length=t.length+1:=by rw [hN,hNt]
   rw [hlen,ht] at hvw
   obtain ⟨b0,off0,hA0,_,_,hc0,_⟩:=wd_tail hvw
   subst hA0
   have t0:decide ((0:Int)<(N:Int))=true:=dT (by omega)
   have t0':decide (0<N)=true:=dT (by omega)
   have t1:(0:Int)<(N:Int):=by omega
   have S1:=LH (rdword g W7 o7 w9 HM9.out.rd)
   have HDS:=LH ht
   clear hvb hvw hN hNt hlen ht
   go_upto_region 12 with (first
        |(go_at_call 78
          with_reducible refine S1.out.mono ?_
          rintro e w10 ⟨s10,W10,o10,rfl,hwr10,hsz10,hrd10,hg10⟩
          have HWR10:=LH hwr10
          have HM10:=LH (HM9.out.step hrd10 hg10)
          clear hwr10 hsz10 hrd10 hg10))
   have HD10:Hid (W10=t∧o10=o7):=by
        rcases HWR10.out with ⟨a,b,c⟩|⟨a,b,c⟩
        ·rw [HDS.out] at a
         injection a with a1 a2
         exact ⟨a2.symm,c⟩
        ·have:=a _ t HDS.out
         simp at this
   obtain ⟨hd1,hd2⟩:=HD10.out
   subst hd1 hd2
   have HWX:Hid (∀b,b∈W10→(32:UInt8)∉b.data.toList):=fun b hb=>HWW.out b (by rw [HDS.out];simp [hb])
   clear HM9 S1 z0 hc0 HWR10 HD10
   obtain ⟨⟨y0,y1,y2,y3,y4,y5,y6,y7,y8⟩,fy⟩:=zD7 HM10.out.x
   go_upto_region 15 with (first
        |(go_at_call 118
          with_reducible refine (ST.out _ _ _ HM10.out.rd HWX.out (HM10.out.env HE.out)).mono ?_
          rintro e w11 ⟨T,A9,c9,W9,o9,rfl,ht9,htb9,hta9,hrd9,hg9⟩
          have HT9:=LH ht9
          have HTB9:=LH htb9
          have HTA9:Hid (∀b off,A9=some ⟨b,off,none⟩→X<b):=fun b off e=>Nat.lt_of_lt_of_le HM10.out.x.lt (hta9 b off e)
          have HM11:=LH (HM10.out.step hrd9 hg9)
          obtain ⟨⟨y0,y1,y2,y3,y4,y5,y6,y7,y8⟩,fy⟩:=zD7 HM11.out.x
          clear ht9 htb9 hta9 hrd9 hg9))
   have HM12:Hid (NdM w g w.heap.size X #[.string s,.int .i64 2,.int .i64 v3,.int .i64 v4,.int .i64 v6,.int .i64 v7,.slice A9 T.length c9,.bool false,.int .i64 0] W9 o9 (w11.setCell ⟨X,6,none⟩ (.slice A9 T.length c9))):=HM11.out.put 6 _
   have HTB10:=LH (HTB9.out.set HTA9.out (i:=6) (.slice A9 T.length c9))
   clear HM10 HM11 HTB9 y0 y1 y2 y3 y4 y5 y6 y7 y8 fy
   generalize w11.setCell ⟨X,6,none⟩ (.slice A9 T.length c9)=w12 at HM12 HTB10⊢
   obtain ⟨w10,hw10⟩:∃z,z=w12:=⟨_,rfl⟩
   subst hw10
   have HM10:=HM12
   obtain ⟨⟨y0,y1,y2,y3,y4,y5,y6,y7,y8⟩,fy⟩:=zD7 HM10.out.x
   obtain ⟨⟨r0,r1,r2,r3,r4,r5,r6,r7,r8⟩,fr⟩:=zD7 HM10.out.r
   go_wp2_with fail
   obtain ⟨hbE,hrE,hgE⟩:=nd_out HM10.out (.string s) (.int .i64 2) (.int .i64 v3) (.int .i64 v4) (.int .i64 v6) (.int .i64 v7) (.slice A9 T.length c9) (.bool false) (.int .i64 0)
   unfold st9 at hbE hrE hgE
   refine bodyPost_ret (v:=.agg #[.string s,.int .i64 2,.int .i64 v3,.int .i64 v4,.int .i64 v6,.int .i64 v7,.slice A9 T.length c9,.bool false,.int .i64 0]) (results_cell_row (by rfl) _ _ w.heap.size 55 _ (0,0) _ (by rfl) hbE Tryz.underlying55 (by rfl) (by kernel_rfl)) rfl ⟨⟨s,2,v3,v4,v6,v7,T,false,0⟩,A9,c9,W9,o9,rfl,⟨W1,W3,W4,W6,W7,o1,o3,o4,o6,_,HWR.out,HN3.out,HN4.out,HN6.out,HN7.out,rfl,.inr (.inl ⟨rfl,.inl ⟨W10,HDS.out,HT9.out,rfl,rfl⟩⟩)⟩,HTB10.out.st9 (fun b off e=>Nat.lt_trans HM10.out.RX (HTA9.out b off e)) (.string s) (.int .i64 2) (.int .i64 v3) (.int .i64 v4) (.int .i64 v6) (.int .i64 v7) (.slice A9 T.length c9) (.bool false) (.int .i64 0),hrE,hgE,fun b off e=>by have h1:=HTA9.out b off e;have h2:=HM10.out.RX;have h3:=HM10.out.Rw;omega⟩
  ·have hnod:∀t,W7≠⟨#[45]⟩::t:=fun t e=>hdash ⟨t,e⟩
   have HND:=LH hnod
   have SN7:=LH (SN.out W7 o7 w9 HM9.out.rd (HM9.out.env HE.out))
   obtain ⟨N,hN⟩:∃N,W7.length=N:=⟨_,rfl⟩
   have hvw2:=hvw
   obtain ⟨A0,c0,hvr,_⟩:=hvw2
   subst hvr
   rw [hN] at z0
   have key:(N=0)∨∃(b0 off0:Nat) (hq:ByteArray),A0=some ⟨b0,off0,none⟩∧0<N∧w9.cell? ⟨b0,off0,none⟩=some (.string hq)∧hq≠⟨#[45]⟩:=by
        cases W7 with
        |nil=>exact .inl (by rw [←hN];rfl)
        |cons hq t=>
         obtain ⟨b0,off0,hA0,_,_,hc0,_⟩:=wd_tail hvw
         exact .inr ⟨b0,off0,hq,hA0,by rw [←hN];simp,hc0,fun e=>hnod t (by rw [e])⟩
   clear hvb hvw hdash hnod
   have go11:∀(P:Prop),P→P:=fun _ h=>h
   rcases key with hz |⟨b0,off0,hq,hA0,hpos,hc0,hqne⟩
   ·subst hz
    have t0:decide ((0:Int)<((0:Nat):Int))=false:=by decide
    obtain ⟨⟨y0,y1,y2,y3,y4,y5,y6,y7,y8⟩,fy⟩:=zD7 HM9.out.x
    go_upto_region 12 with (first
        |(go_at_call 117
          with_reducible refine SN7.out.mono ?_
          rintro e w10 ⟨v10,W10,o10,rfl,hn10,hrd10,hg10,hs10⟩
          have HN10:=LH hn10
          have HMa:=LH (HM9.out.step hrd10 hg10)
          have HWX:Hid (∀b,b∈W10→(32:UInt8)∉b.data.toList):=fun b hb=>HWW.out b (hs10 b hb)
          obtain ⟨⟨y0,y1,y2,y3,y4,y5,y6,y7,y8⟩,fy⟩:=zD7 HMa.out.x
          clear hn10 hrd10 hg10 hs10))
    have HMb:Hid (NdM w g w.heap.size X #[.string s,.int .i64 2,.int .i64 v3,.int .i64 v4,.int .i64 v6,.int .i64 v7,.slice none 0 0,.bool true,.int .i64 v10] W10 o10 ((w10.setCell ⟨X,7,none⟩ (.bool true)).setCell ⟨X,8,none⟩ (.int .i64 v10))):=(HMa.out.put 7 _).put 8 _
    clear HM9 HMa z0 y0 y1 y2 y3 y4 y5 y6 y7 y8 fy
    generalize (w10.setCell ⟨X,7,none⟩ (.bool true)).setCell ⟨X,8,none⟩ (.int .i64 v10)=w11 at HMb⊢
    obtain ⟨⟨y0,y1,y2,y3,y4,y5,y6,y7,y8⟩,fy⟩:=zD7 HMb.out.x
    go_upto_region 15 with (first
        |(go_at_call 118
          with_reducible refine (ST.out _ _ _ HMb.out.rd HWX.out (HMb.out.env HE.out)).mono ?_
          rintro e w12 ⟨T,A9,c9,W9,o9,rfl,ht9,htb9,hta9,hrd9,hg9⟩
          have HT9:=LH ht9
          have HTB9:=LH htb9
          have HTA9:Hid (∀b off,A9=some ⟨b,off,none⟩→X<b):=fun b off e=>Nat.lt_of_lt_of_le HMb.out.x.lt (hta9 b off e)
          have HMc:=LH (HMb.out.step hrd9 hg9)
          obtain ⟨⟨y0,y1,y2,y3,y4,y5,y6,y7,y8⟩,fy⟩:=zD7 HMc.out.x
          clear ht9 htb9 hta9 hrd9 hg9))
    have HM10:Hid (NdM w g w.heap.size X #[.string s,.int .i64 2,.int .i64 v3,.int .i64 v4,.int .i64 v6,.int .i64 v7,.slice A9 T.length c9,.bool true,.int .i64 v10] W9 o9 (w12.setCell ⟨X,6,none⟩ (.slice A9 T.length c9))):=HMc.out.put 6 _
    have HTB10:=LH (HTB9.out.set HTA9.out (i:=6) (.slice A9 T.length c9))
    clear HMb HMc HTB9 y0 y1 y2 y3 y4 y5 y6 y7 y8 fy
    generalize w12.setCell ⟨X,6,none⟩ (.slice A9 T.length c9)=w13 at HM10 HTB10⊢
    obtain ⟨⟨y0,y1,y2,y3,y4,y5,y6,y7,y8⟩,fy⟩:=zD7 HM10.out.x
    obtain ⟨⟨r0,r1,r2,r3,r4,r5,r6,r7,r8⟩,fr⟩:=zD7 HM10.out.r
    go_wp2_with fail
    obtain ⟨hbE,hrE,hgE⟩:=nd_out HM10.out (.string s) (.int .i64 2) (.int .i64 v3) (.int .i64 v4) (.int .i64 v6) (.int .i64 v7) (.slice A9 T.length c9) (.bool true) (.int .i64 v10)
    unfold st9 at hbE hrE hgE
    refine bodyPost_ret (v:=.agg #[.string s,.int .i64 2,.int .i64 v3,.int .i64 v4,.int .i64 v6,.int .i64 v7,.slice A9 T.length c9,.bool true,.int .i64 v10]) (results_cell_row (by rfl) _ _ w.heap.size 55 _ (0,0) _ (by rfl) hbE Tryz.underlying55 (by rfl) (by kernel_rfl)) rfl ⟨⟨s,2,v3,v4,v6,v7,T,true,v10⟩,A9,c9,W9,o9,rfl,⟨W1,W3,W4,W6,W7,o1,o3,o4,o6,o7,HWR.out,HN3.out,HN4.out,HN6.out,HN7.out,rfl,.inr (.inl ⟨rfl,.inr ⟨HND.out,W10,o10,HN10.out,HT9.out,rfl⟩⟩)⟩,HTB10.out.st9 (fun b off e=>Nat.lt_trans HM10.out.RX (HTA9.out b off e)) (.string s) (.int .i64 2) (.int .i64 v3) (.int .i64 v4) (.int .i64 v6) (.int .i64 v7) (.slice A9 T.length c9) (.bool true) (.int .i64 v10),hrE,hgE,fun b off e=>by have h1:=HTA9.out b off e;have h2:=HM10.out.RX;have h3:=HM10.out.Rw;omega⟩
   ·subst hA0
    have t0:decide ((0:Int)<(N:Int))=true:=dT (by omega)
    have t0':decide (0<N)=true:=dT hpos
    have t1:(0:Int)<(N:Int):=by omega
    have t2:=bytes_neq hqne
    have t3:(hq.toList==(⟨#[45]⟩:ByteArray).toList)=false:=by simpa using t2
    have e45:(⟨#[45]⟩:ByteArray).toList=[45]:=by rw [zD0]
    have t4:¬hq.toList=[45]:=fun e=>t2 (by rw [e,e45])
    have t5:(hq.toList==[45])=false:=by simpa using t4
    obtain ⟨⟨y0,y1,y2,y3,y4,y5,y6,y7,y8⟩,fy⟩:=zD7 HM9.out.x
    go_upto_region 12 with (first
        |(go_at_call 117
          with_reducible refine SN7.out.mono ?_
          rintro e w10 ⟨v10,W10,o10,rfl,hn10,hrd10,hg10,hs10⟩
          have HN10:=LH hn10
          have HMa:=LH (HM9.out.step hrd10 hg10)
          have HWX:Hid (∀b,b∈W10→(32:UInt8)∉b.data.toList):=fun b hb=>HWW.out b (hs10 b hb)
          obtain ⟨⟨y0,y1,y2,y3,y4,y5,y6,y7,y8⟩,fy⟩:=zD7 HMa.out.x
          clear hn10 hrd10 hg10 hs10))
    have HMb:Hid (NdM w g w.heap.size X #[.string s,.int .i64 2,.int .i64 v3,.int .i64 v4,.int .i64 v6,.int .i64 v7,.slice none 0 0,.bool true,.int .i64 v10] W10 o10 ((w10.setCell ⟨X,7,none⟩ (.bool true)).setCell ⟨X,8,none⟩ (.int .i64 v10))):=(HMa.out.put 7 _).put 8 _
    clear HM9 HMa z0 y0 y1 y2 y3 y4 y5 y6 y7 y8 fy
    generalize (w10.setCell ⟨X,7,none⟩ (.bool true)).setCell ⟨X,8,none⟩ (.int .i64 v10)=w11 at HMb⊢
    obtain ⟨⟨y0,y1,y2,y3,y4,y5,y6,y7,y8⟩,fy⟩:=zD7 HMb.out.x
    go_upto_region 15 with (first
        |(go_at_call 118
          with_reducible refine (ST.out _ _ _ HMb.out.rd HWX.out (HMb.out.env HE.out)).mono ?_
          rintro e w12 ⟨T,A9,c9,W9,o9,rfl,ht9,htb9,hta9,hrd9,hg9⟩
          have HT9:=LH ht9
          have HTB9:=LH htb9
          have HTA9:Hid (∀b off,A9=some ⟨b,off,none⟩→X<b):=fun b off e=>Nat.lt_of_lt_of_le HMb.out.x.lt (hta9 b off e)
          have HMc:=LH (HMb.out.step hrd9 hg9)
          obtain ⟨⟨y0,y1,y2,y3,y4,y5,y6,y7,y8⟩,fy⟩:=zD7 HMc.out.x
          clear ht9 htb9 hta9 hrd9 hg9))
    have HM10:Hid (NdM w g w.heap.size X #[.string s,.int .i64 2,.int .i64 v3,.int .i64 v4,.int .i64 v6,.int .i64 v7,.slice A9 T.length c9,.bool true,.int .i64 v10] W9 o9 (w12.setCell ⟨X,6,none⟩ (.slice A9 T.length c9))):=HMc.out.put 6 _
    have HTB10:=LH (HTB9.out.set HTA9.out (i:=6) (.slice A9 T.length c9))
    clear HMb HMc HTB9 y0 y1 y2 y3 y4 y5 y6 y7 y8 fy
    generalize w12.setCell ⟨X,6,none⟩ (.slice A9 T.length c9)=w13 at HM10 HTB10⊢
    obtain ⟨⟨y0,y1,y2,y3,y4,y5,y6,y7,y8⟩,fy⟩:=zD7 HM10.out.x
    obtain ⟨⟨r0,r1,r2,r3,r4,r5,r6,r7,r8⟩,fr⟩:=zD7 HM10.out.r
    go_wp2_with fail
    obtain ⟨hbE,hrE,hgE⟩:=nd_out HM10.out (.string s) (.int .i64 2) (.int .i64 v3) (.int .i64 v4) (.int .i64 v6) (.int .i64 v7) (.slice A9 T.length c9) (.bool true) (.int .i64 v10)
    unfold st9 at hbE hrE hgE
    refine bodyPost_ret (v:=.agg #[.string s,.int .i64 2,.int .i64 v3,.int .i64 v4,.int .i64 v6,.int .i64 v7,.slice A9 T.length c9,.bool true,.int .i64 v10]) (results_cell_row (by rfl) _ _ w.heap.size 55 _ (0,0) _ (by rfl) hbE Tryz.underlying55 (by rfl) (by kernel_rfl)) rfl ⟨⟨s,2,v3,v4,v6,v7,T,true,v10⟩,A9,c9,W9,o9,rfl,⟨W1,W3,W4,W6,W7,o1,o3,o4,o6,o7,HWR.out,HN3.out,HN4.out,HN6.out,HN7.out,rfl,.inr (.inl ⟨rfl,.inr ⟨HND.out,W10,o10,HN10.out,HT9.out,rfl⟩⟩)⟩,HTB10.out.st9 (fun b off e=>Nat.lt_trans HM10.out.RX (HTA9.out b off e)) (.string s) (.int .i64 2) (.int .i64 v3) (.int .i64 v4) (.int .i64 v6) (.int .i64 v7) (.slice A9 T.length c9) (.bool true) (.int .i64 v10),hrE,hgE,fun b off e=>by have h1:=HTA9.out b off e;have h2:=HM10.out.RX;have h3:=HM10.out.Rw;omega⟩
 ·subst hk1 hk2
  clear HKD
  obtain ⟨⟨y0,y1,y2,y3,y4,y5,y6,y7,y8⟩,fy⟩:=zD7 HM8.out.x
  go_upto_region 15 with fail
  have HM10:Hid (NdM w g w.heap.size X #[.string s,.int .i64 3,.int .i64 v3,.int .i64 v4,.int .i64 v6,.int .i64 v7,.slice none 0 0,.bool false,.int .i64 0] W7 o7 (w8.setCell ⟨X,1,none⟩ (.int .i64 3))):=HM8.out.put 1 _
  clear HM8 y0 y1 y2 y3 y4 y5 y6 y7 y8 fy
  generalize w8.setCell ⟨X,1,none⟩ (.int .i64 3)=w10 at HM10⊢
  have HTB10:Hid (TabIn w10 none (0:Nat) (kX []) (kY [])):=TabIn.none' _ _ _
  obtain ⟨⟨y0,y1,y2,y3,y4,y5,y6,y7,y8⟩,fy⟩:=zD7 HM10.out.x
  obtain ⟨⟨r0,r1,r2,r3,r4,r5,r6,r7,r8⟩,fr⟩:=zD7 HM10.out.r
  go_wp2_with fail
  obtain ⟨hbE,hrE,hgE⟩:=nd_out HM10.out (.string s) (.int .i64 3) (.int .i64 v3) (.int .i64 v4) (.int .i64 v6) (.int .i64 v7) (.slice none 0 0) (.bool false) (.int .i64 0)
  unfold st9 at hbE hrE hgE
  refine bodyPost_ret (v:=.agg #[.string s,.int .i64 3,.int .i64 v3,.int .i64 v4,.int .i64 v6,.int .i64 v7,.slice none 0 0,.bool false,.int .i64 0]) (results_cell_row (by rfl) _ _ w.heap.size 55 _ (0,0) _ (by rfl) hbE Tryz.underlying55 (by rfl) (by kernel_rfl)) rfl ⟨⟨s,3,v3,v4,v6,v7,[],false,0⟩,none,0,W7,o7,rfl,⟨W1,W3,W4,W6,W7,o1,o3,o4,o6,o7,HWR.out,HN3.out,HN4.out,HN6.out,HN7.out,rfl,.inr (.inr ⟨rfl,rfl,rfl,rfl,rfl,rfl⟩)⟩,TabIn.none' _ _ _,hrE,hgE,fun b off e=>(by cases e)⟩
def lcs (x:Lkr) (A:Option Addr) (c:Nat):List Value:=[.string x.nm,.string x.fr,.string x.tn,.int .i64 x.kd,.int .i64 x.ln,.int .i64 x.up,.int .i64 x.dn,.string x.sc,.int .i64 x.wd,.int .i64 x.ht,.slice A x.T.length c]
def LinkPost (kd:Int) (g:Nat) (W:List ByteArray) (o:Bool) (w:World) (e:Ending) (w':World):Prop:=
 ∃(x:Lkr) (A:Option Addr) (c:Nat) (W':List ByteArray) (o':Bool),e= .returned (.agg (lcs x A c).toArray)∧LinkR kd W o x W' o'∧TabIn w' A x.T.length (kX x.T) (kY x.T)∧RdAt w' g W' o'∧w.grownBy w' (some g)∧∀b off,A=some ⟨b,off,none⟩→w.heap.size≤b
structure LdM (w:World) (g R X:Nat) (cs:Array Value) (W:List ByteArray) (o:Bool) (wr:World):Prop where
 x:Blk wr X 64 cs
 r:Blk wr R 64 #[.string ⟨#[]⟩,.string ⟨#[]⟩,.string ⟨#[]⟩,.int .i64 0,.int .i64 0,.int .i64 0,.int .i64 0,.string ⟨#[]⟩,.int .i64 0,.int .i64 0,.slice none 0 0]
 rd:RdAt wr g W o
 gr:w.grownBy wr (some g)
 gR:g<w.heap.size
 Rw:w.heap.size≤R
 RX:R<X
theorem LdM.step {w wr w':World} {g R X:Nat} {cs:Array Value} {W W':List ByteArray} {o o':Bool} (h:LdM w g R X cs W o wr) (hr:RdAt w' g W' o') (hg:wr.grownBy w' (some g)):LdM w g R X cs W' o' w':=by
 have h1:=h.gR
 have h2:=h.Rw
 have h3:=h.RX
 exact ⟨h.x.grown hg (fun e=>by have:=Option.some.inj e;omega),h.r.grown hg (fun e=>by have:=Option.some.inj e;omega),hr,h.gr.trans hg,h1,h2,h3⟩
theorem LdM.put {w wr:World} {g R X:Nat} {cs:Array Value} {W:List ByteArray} {o:Bool} (h:LdM w g R X cs W o wr) (i:Nat) (u:Value):LdM w g R X (cs.setIfInBounds i u) W o (wr.setCell ⟨X,i,none⟩ u):=by
 have h1:=h.gR
 have h2:=h.Rw
 have h3:=h.RX
 refine ⟨h.x.set_ i u,h.r.far (by show R≠X;omega) u,h.rd.set (by omega) i u,?_,h1,h2,h3⟩
 have hs:=zB5 wr X i u
 exact ⟨hs.os.trans h.gr.os,hs.tape.trans h.gr.tape,hs.output.trans h.gr.output,nT h.gr.size hs.size,fun k hk hne=>(hs.block k (by have:=h.gr.size;omega) (fun e=>by have:=Option.some.inj e;omega)).trans (h.gr.block k hk hne)⟩
theorem LdM.env {w wr:World} {g R X:Nat} {cs:Array Value} {W:List ByteArray} {o:Bool} (h:LdM w g R X cs W o wr) (hE:∀w',w.grownBy w' (some g)→Env w'):∀w',wr.grownBy w' (some g)→Env w':=fun w' hg=>hE w' (h.gr.trans hg)
theorem zC4 {w:World} {g:Nat} {t:TypeId} {a b c d e f i j k l m:Value} (h:Blk w g t #[a,b,c,d,e,f,i,j,k,l,m]):(w.cell? ⟨g,0,none⟩=some a∧w.cell? ⟨g,1,none⟩=some b∧w.cell? ⟨g,2,none⟩=some c∧w.cell? ⟨g,3,none⟩=some d∧w.cell? ⟨g,4,none⟩=some e∧w.cell? ⟨g,5,none⟩=some f∧w.cell? ⟨g,6,none⟩=some i∧w.cell? ⟨g,7,none⟩=some j∧w.cell? ⟨g,8,none⟩=some k∧w.cell? ⟨g,9,none⟩=some l∧w.cell? ⟨g,10,none⟩=some m)∧∀n,w.frozen? ⟨g,n,none⟩=false:=
 ⟨⟨h.cell 0,h.cell 1,h.cell 2,h.cell 3,h.cell 4,h.cell 5,h.cell 6,h.cell 7,h.cell 8,h.cell 9,h.cell 10⟩,fun n=>h.frozen n⟩
def st11 (wr:World) (R:Nat) (a b c d e f i j k l m:Value):World:=((((((((((wr.setCell ⟨R,0,none⟩ a).setCell ⟨R,1,none⟩ b).setCell ⟨R,2,none⟩ c).setCell ⟨R,3,none⟩ d).setCell ⟨R,4,none⟩ e).setCell ⟨R,5,none⟩ f).setCell ⟨R,6,none⟩ i).setCell ⟨R,7,none⟩ j).setCell ⟨R,8,none⟩ k).setCell ⟨R,9,none⟩ l).setCell ⟨R,10,none⟩ m
theorem lk_out {w wr:World} {g R X:Nat} {cs:Array Value} {W:List ByteArray} {o:Bool} (h:LdM w g R X cs W o wr) (a b c d e f i j k l m:Value):
 Blk (st11 wr R a b c d e f i j k l m) R 64 #[a,b,c,d,e,f,i,j,k,l,m]∧RdAt (st11 wr R a b c d e f i j k l m) g W o∧w.grownBy (st11 wr R a b c d e f i j k l m) (some g):=by
 have h1:=h.gR
 have h2:=h.Rw
 have hR:g<R:=by omega
 unfold st11
 have hbk:=(((((((((((h.r.set_ 0 a).set_ 1 b).set_ 2 c).set_ 3 d).set_ 4 e).set_ 5 f).set_ 6 i).set_ 7 j).set_ 8 k).set_ 9 l).set_ 10 m)
 simp only [sA,sB,sC] at hbk
 exact ⟨hbk,(((((((((((h.rd.set hR 0 a).set hR 1 b).set hR 2 c).set hR 3 d).set hR 4 e).set hR 5 f).set hR 6 i).set hR 7 j).set hR 8 k).set hR 9 l).set hR 10 m),(zF7 (zF7 (zF7 (zF7 (zF7 (zF7 (zF7 (zF7 (zF7 (zF7 (zF7 h.gr h2 (zB5 _ R 0 a)) h2 (zB5 _ R 1 b)) h2 (zB5 _ R 2 c)) h2 (zB5 _ R 3 d)) h2 (zB5 _ R 4 e)) h2 (zB5 _ R 5 f)) h2 (zB5 _ R 6 i)) h2 (zB5 _ R 7 j)) h2 (zB5 _ R 8 k)) h2 (zB5 _ R 9 l)) h2 (zB5 _ R 10 m))⟩
theorem TabIn.st11 {w:World} {A:Option Addr} {n R:Nat} {F G:Nat→Int} (h:TabIn w A n F G) (hA:∀b off,A=some ⟨b,off,none⟩→R<b) (a b c d e f i j k l m:Value):TabIn (st11 w R a b c d e f i j k l m) A n F G:=
 (((((((((((h.set hA a).set hA b).set hA c).set hA d).set hA e).set hA f).set hA i).set hA j).set hA k).set hA l).set hA m)
set_option maxRecDepth 100000 in
set_option maxHeartbeats 8000000 in
theorem rdlink (kd:Int) (kb:ByteArray) (hkd:(kd=1∧kb=⟨#[112,105,112,101]⟩)∨(kd=2∧kb=⟨#[119,101,105,114]⟩)∨(kd=3∧kb=⟨#[103,97,116,101]⟩)∨(kd=4∧kb=⟨#[112,117,109,112]⟩)) (g:Nat) (W:List ByteArray) (o:Bool) (w:World) (h:RdAt w g W o) (hw:∀b,b∈W→(32:UInt8)∉b.data.toList) (hE:∀w',w.grownBy w' (some g)→Env w'):
 Calls Tryz.prog 80 #[.pointer (some ⟨g,0,none⟩),.string kb] w (LinkPost kd g W o w):=by
 have HE:=LH hE
 have HW:=LH hw
 have HKD:=LH hkd
 have HGL:=LH h.lt
 have hal:Below w.heap.size w (w.alloc (Obj.cells #[.string ⟨#[]⟩,.string ⟨#[]⟩,.string ⟨#[]⟩,.int .i64 0,.int .i64 0,.int .i64 0,.int .i64 0,.string ⟨#[]⟩,.int .i64 0,.int .i64 0,.slice none 0 0] 64)):=(bR _ w).alloc (nl _) _
 have S1:=LH (rdword g W o _ (h.call hal))
 have HAL:=LH hal
 have SN:Hid (∀W o w',RdAt w' g W o→(∀w'',w'.grownBy w'' (some g)→Env w'')→Calls Tryz.prog 117 #[.pointer (some ⟨g,0,none⟩)] w' (NumPost g W o w')):=fun W o w' h he=>rdnum g W o w' h he
 have SW:Hid (∀W o w',RdAt w' g W o→Calls Tryz.prog 78 #[.pointer (some ⟨g,0,none⟩)] w' (WordPost g W o w')):=fun W o w' h=>rdword g W o w' h
 have ST:Hid (∀W o w',RdAt w' g W o→(∀b,b∈W→(32:UInt8)∉b.data.toList)→(∀w'',w'.grownBy w'' (some g)→Env w'')→Calls Tryz.prog 118 #[.pointer (some ⟨g,0,none⟩)] w' (TabPost2 g W o w')):=fun W o w' h hw he=>rdtab g W o w' h hw he
 clear h hw hE hal hkd
 go_enter Tryz.func80,Tryz.ntmps80
 go_upto_region 2 with (first
  |(go_at_call 78
    with_reducible refine S1.out.mono ?_
    rintro e w1 ⟨s1,W1,o1,rfl,hwr,hsz,hrd,hg1⟩
    have HR1:=LH hwr
    have HRD1:=LH hrd
    have HG1:=LH hg1
    clear hwr hsz hrd hg1)
  |(go_at_call 78
    with_reducible refine (SW.out _ _ _ HRD1.out).mono ?_
    rintro e w2 ⟨s2,W2,o2,rfl,hwr,hsz,hrd,hg1⟩
    have HR2:=LH hwr
    have HRD2:=LH hrd
    have HG2:=LH (HG1.out.trans hg1)
    clear hwr hsz hrd hg1)
  |(go_at_call 78
    with_reducible refine (SW.out _ _ _ HRD2.out).mono ?_
    rintro e w3 ⟨s3,W3,o3,rfl,hwr,hsz,hrd,hg1⟩
    have HR3:=LH hwr
    have HRD:=LH hrd
    have HG:=LH (HG2.out.trans hg1)
    clear hwr hsz hrd hg1))
 clear S1 HRD1 HRD2 HG1 HG2
 have HM:Hid (LdM w g w.heap.size w3.heap.size #[.string s1,.string s2,.string s3,.int .i64 0,.int .i64 0,.int .i64 0,.int .i64 0,.string ⟨#[]⟩,.int .i64 0,.int .i64 0,.slice none 0 0] W3 o3 (w3.alloc (Obj.cells #[.string s1,.string s2,.string s3,.int .i64 0,.int .i64 0,.int .i64 0,.int .i64 0,.string ⟨#[]⟩,.int .i64 0,.int .i64 0,.slice none 0 0] 64))):=by
  have hb1:Below w3.heap.size w3 (w3.alloc (Obj.cells #[.string s1,.string s2,.string s3,.int .i64 0,.int .i64 0,.int .i64 0,.int .i64 0,.string ⟨#[]⟩,.int .i64 0,.int .i64 0,.slice none 0 0] 64)):=(bR _ w3).alloc (nl _) _
  have hgl:=HGL.out
  have hrr:=((Blk.new w 64 #[.string ⟨#[]⟩,.string ⟨#[]⟩,.string ⟨#[]⟩,.int .i64 0,.int .i64 0,.int .i64 0,.int .i64 0,.string ⟨#[]⟩,.int .i64 0,.int .i64 0,.slice none 0 0]).grown HG.out (fun e=>by have:=Option.some.inj e;omega))
  exact ⟨Blk.new _ _ _,hrr.call hb1,HRD.out.call hb1,((zB1 HAL.out (some g)).trans HG.out).trans (zB1 hb1 _),hgl,nl _,hrr.lt⟩
 clear HAL HRD HG
 generalize w3.alloc (Obj.cells #[.string s1,.string s2,.string s3,.int .i64 0,.int .i64 0,.int .i64 0,.int .i64 0,.string ⟨#[]⟩,.int .i64 0,.int .i64 0,.slice none 0 0] 64)=w4 at HM⊢
 generalize w3.heap.size=X at HM⊢
 have HW3:Hid (∀b,b∈W3→(32:UInt8)∉b.data.toList):=fun b hb=>HW.out b (HR1.out.sub b (HR2.out.sub b (HR3.out.sub b hb)))
 clear HW
 rcases HKD.out with ⟨hk1,hk2⟩|⟨hk1,hk2⟩|⟨hk1,hk2⟩|⟨hk1,hk2⟩
 ·subst hk1 hk2
  clear HKD
  obtain ⟨⟨y0,y1,y2,y3,y4,y5,y6,y7,y8,y9,y10⟩,fy⟩:=zC4 HM.out.x
  go_upto_region 4 with (first
   |(go_at_call 117
     with_reducible refine (SN.out _ _ _ HM.out.rd (HM.out.env HE.out)).mono ?_
     rintro e w5 ⟨ln,W5,o5,rfl,hn,hrd,hg,hs⟩
     have HR5:=LH hn
     have HM5:=LH (HM.out.step hrd hg)
     have HW5:Hid (∀b,b∈W5→(32:UInt8)∉b.data.toList):=fun b hb=>HW3.out b (hs b hb)
     obtain ⟨⟨y0,y1,y2,y3,y4,y5,y6,y7,y8,y9,y10⟩,fy⟩:=zC4 HM5.out.x
     clear hn hrd hg hs))
  have HM6:Hid (LdM w g w.heap.size X #[.string s1,.string s2,.string s3,.int .i64 0,.int .i64 ln,.int .i64 0,.int .i64 0,.string ⟨#[]⟩,.int .i64 0,.int .i64 0,.slice none 0 0] W5 o5 (w5.setCell ⟨X,4,none⟩ (.int .i64 ln))):=(HM5.out.put 4 _)
  clear HM HM5 y0 y1 y2 y3 y4 y5 y6 y7 y8 y9 y10 fy
  generalize w5.setCell ⟨X,4,none⟩ (.int .i64 ln)=w6 at HM6⊢
  obtain ⟨⟨y0,y1,y2,y3,y4,y5,y6,y7,y8,y9,y10⟩,fy⟩:=zC4 HM6.out.x
  go_upto_region 5 with (first
   |(go_at_call 117
     with_reducible refine (SN.out _ _ _ HM6.out.rd (HM6.out.env HE.out)).mono ?_
     rintro e w7 ⟨up,W7,o7,rfl,hn,hrd,hg,hs⟩
     have HR7:=LH hn
     have HM7:=LH (HM6.out.step hrd hg)
     have HW7:Hid (∀b,b∈W7→(32:UInt8)∉b.data.toList):=fun b hb=>HW5.out b (hs b hb)
     obtain ⟨⟨y0,y1,y2,y3,y4,y5,y6,y7,y8,y9,y10⟩,fy⟩:=zC4 HM7.out.x
     clear hn hrd hg hs))
  have HM8:Hid (LdM w g w.heap.size X #[.string s1,.string s2,.string s3,.int .i64 0,.int .i64 ln,.int .i64 up,.int .i64 0,.string ⟨#[]⟩,.int .i64 0,.int .i64 0,.slice none 0 0] W7 o7 (w7.setCell ⟨X,5,none⟩ (.int .i64 up))):=(HM7.out.put 5 _)
  clear HM6 HM7 y0 y1 y2 y3 y4 y5 y6 y7 y8 y9 y10 fy
  generalize w7.setCell ⟨X,5,none⟩ (.int .i64 up)=w8 at HM8⊢
  obtain ⟨⟨y0,y1,y2,y3,y4,y5,y6,y7,y8,y9,y10⟩,fy⟩:=zC4 HM8.out.x
  go_upto_region 14 with (first
   |(go_at_call 117
     with_reducible refine (SN.out _ _ _ HM8.out.rd (HM8.out.env HE.out)).mono ?_
     rintro e w9 ⟨dn,W9,o9,rfl,hn,hrd,hg,hs⟩
     have HR9:=LH hn
     have HM9:=LH (HM8.out.step hrd hg)
     have HW9:Hid (∀b,b∈W9→(32:UInt8)∉b.data.toList):=fun b hb=>HW7.out b (hs b hb)
     clear hn hrd hg hs)
   |(go_at_call 78
     with_reducible refine (SW.out _ _ _ HM9.out.rd).mono ?_
     rintro e w10 ⟨sc,W10,o10,rfl,hn,hsz,hrd,hg⟩
     have HR10:=LH hn
     have HM10:=LH (HM9.out.step hrd hg)
     have HW10:Hid (∀b,b∈W10→(32:UInt8)∉b.data.toList):=fun b hb=>HW9.out b (HR10.out.sub b hb)
     obtain ⟨⟨y0,y1,y2,y3,y4,y5,y6,y7,y8,y9,y10⟩,fy⟩:=zC4 HM10.out.x
     clear hn hsz hrd hg))
  have HM11:Hid (LdM w g w.heap.size X #[.string s1,.string s2,.string s3,.int .i64 1,.int .i64 ln,.int .i64 up,.int .i64 dn,.string sc,.int .i64 0,.int .i64 0,.slice none 0 0] W10 o10 (((w10.setCell ⟨X,3,none⟩ (.int .i64 1)).setCell ⟨X,6,none⟩ (.int .i64 dn)).setCell ⟨X,7,none⟩ (.string sc))):=(((HM10.out.put 3 _).put 6 _).put 7 _)
  clear HM8 HM9 HM10 y0 y1 y2 y3 y4 y5 y6 y7 y8 y9 y10 fy
  generalize ((w10.setCell ⟨X,3,none⟩ (.int .i64 1)).setCell ⟨X,6,none⟩ (.int .i64 dn)).setCell ⟨X,7,none⟩ (.string sc)=w11 at HM11⊢
  obtain ⟨⟨y0,y1,y2,y3,y4,y5,y6,y7,y8,y9,y10⟩,fy⟩:=zC4 HM11.out.x
  obtain ⟨⟨r0,r1,r2,r3,r4,r5,r6,r7,r8,r9,r10⟩,fr⟩:=zC4 HM11.out.r
  go_wp2_with fail
  obtain ⟨hbE,hrE,hgE⟩:=lk_out HM11.out (.string s1) (.string s2) (.string s3) (.int .i64 1) (.int .i64 ln) (.int .i64 up) (.int .i64 dn) (.string sc) (.int .i64 0) (.int .i64 0) (.slice none 0 0)
  unfold st11 at hbE hrE hgE
  refine bodyPost_ret (v:=.agg #[.string s1,.string s2,.string s3,.int .i64 1,.int .i64 ln,.int .i64 up,.int .i64 dn,.string sc,.int .i64 0,.int .i64 0,.slice none 0 0]) (results_cell_row (by rfl) _ _ w.heap.size 64 _ (0,0) _ (by rfl) hbE Tryz.underlying64 (by rfl) (by kernel_rfl)) rfl ⟨⟨s1,s2,s3,1,ln,up,dn,sc,0,0,[]⟩,none,0,W10,o10,rfl,⟨W1,W2,W3,o1,o2,o3,HR1.out,HR2.out,HR3.out,rfl,.inl ⟨rfl,W5,W7,W9,o5,o7,o9,HR5.out,HR7.out,HR9.out,HR10.out,rfl,rfl,rfl⟩⟩,TabIn.none' _ _ _,hrE,hgE,fun b off e=>(by cases e)⟩
 ·subst hk1 hk2
  clear HKD
  obtain ⟨⟨y0,y1,y2,y3,y4,y5,y6,y7,y8,y9,y10⟩,fy⟩:=zC4 HM.out.x
  go_upto_region 5 with (first
   |(go_at_call 117
     with_reducible refine (SN.out _ _ _ HM.out.rd (HM.out.env HE.out)).mono ?_
     rintro e w5 ⟨up,W5,o5,rfl,hn,hrd,hg,hs⟩
     have HR5:=LH hn
     have HM5:=LH (HM.out.step hrd hg)
     have HW5:Hid (∀b,b∈W5→(32:UInt8)∉b.data.toList):=fun b hb=>HW3.out b (hs b hb)
     obtain ⟨⟨y0,y1,y2,y3,y4,y5,y6,y7,y8,y9,y10⟩,fy⟩:=zC4 HM5.out.x
     clear hn hrd hg hs))
  have HM6:Hid (LdM w g w.heap.size X #[.string s1,.string s2,.string s3,.int .i64 0,.int .i64 0,.int .i64 up,.int .i64 0,.string ⟨#[]⟩,.int .i64 0,.int .i64 0,.slice none 0 0] W5 o5 (w5.setCell ⟨X,5,none⟩ (.int .i64 up))):=(HM5.out.put 5 _)
  clear HM HM5 y0 y1 y2 y3 y4 y5 y6 y7 y8 y9 y10 fy
  generalize w5.setCell ⟨X,5,none⟩ (.int .i64 up)=w6 at HM6⊢
  obtain ⟨⟨y0,y1,y2,y3,y4,y5,y6,y7,y8,y9,y10⟩,fy⟩:=zC4 HM6.out.x
  go_upto_region 14 with (first
   |(go_at_call 117
     with_reducible refine (SN.out _ _ _ HM6.out.rd (HM6.out.env HE.out)).mono ?_
     rintro e w7 ⟨wd,W7,o7,rfl,hn,hrd,hg,hs⟩
     have HR7:=LH hn
     have HM7:=LH (HM6.out.step hrd hg)
     have HW7:Hid (∀b,b∈W7→(32:UInt8)∉b.data.toList):=fun b hb=>HW5.out b (hs b hb)
     obtain ⟨⟨y0,y1,y2,y3,y4,y5,y6,y7,y8,y9,y10⟩,fy⟩:=zC4 HM7.out.x
     clear hn hrd hg hs))
  have HM8:Hid (LdM w g w.heap.size X #[.string s1,.string s2,.string s3,.int .i64 2,.int .i64 0,.int .i64 up,.int .i64 0,.string ⟨#[]⟩,.int .i64 wd,.int .i64 0,.slice none 0 0] W7 o7 ((w7.setCell ⟨X,3,none⟩ (.int .i64 2)).setCell ⟨X,8,none⟩ (.int .i64 wd))):=((HM7.out.put 3 _).put 8 _)
  clear HM6 HM7 y0 y1 y2 y3 y4 y5 y6 y7 y8 y9 y10 fy
  generalize (w7.setCell ⟨X,3,none⟩ (.int .i64 2)).setCell ⟨X,8,none⟩ (.int .i64 wd)=w8 at HM8⊢
  obtain ⟨⟨y0,y1,y2,y3,y4,y5,y6,y7,y8,y9,y10⟩,fy⟩:=zC4 HM8.out.x
  obtain ⟨⟨r0,r1,r2,r3,r4,r5,r6,r7,r8,r9,r10⟩,fr⟩:=zC4 HM8.out.r
  go_wp2_with fail
  obtain ⟨hbE,hrE,hgE⟩:=lk_out HM8.out (.string s1) (.string s2) (.string s3) (.int .i64 2) (.int .i64 0) (.int .i64 up) (.int .i64 0) (.string ⟨#[]⟩) (.int .i64 wd) (.int .i64 0) (.slice none 0 0)
  unfold st11 at hbE hrE hgE
  refine bodyPost_ret (v:=.agg #[.string s1,.string s2,.string s3,.int .i64 2,.int .i64 0,.int .i64 up,.int .i64 0,.string ⟨#[]⟩,.int .i64 wd,.int .i64 0,.slice none 0 0]) (results_cell_row (by rfl) _ _ w.heap.size 64 _ (0,0) _ (by rfl) hbE Tryz.underlying64 (by rfl) (by kernel_rfl)) rfl ⟨⟨s1,s2,s3,2,0,up,0,⟨#[]⟩,wd,0,[]⟩,none,0,W7,o7,rfl,⟨W1,W2,W3,o1,o2,o3,HR1.out,HR2.out,HR3.out,rfl,.inr (.inl ⟨rfl,W5,o5,HR5.out,HR7.out,rfl,rfl,rfl,rfl,rfl⟩)⟩,TabIn.none' _ _ _,hrE,hgE,fun b off e=>(by cases e)⟩
 ·subst hk1 hk2
  clear HKD
  obtain ⟨⟨y0,y1,y2,y3,y4,y5,y6,y7,y8,y9,y10⟩,fy⟩:=zC4 HM.out.x
  go_upto_region 5 with (first
   |(go_at_call 117
     with_reducible refine (SN.out _ _ _ HM.out.rd (HM.out.env HE.out)).mono ?_
     rintro e w5 ⟨up,W5,o5,rfl,hn,hrd,hg,hs⟩
     have HR5:=LH hn
     have HM5:=LH (HM.out.step hrd hg)
     have HW5:Hid (∀b,b∈W5→(32:UInt8)∉b.data.toList):=fun b hb=>HW3.out b (hs b hb)
     obtain ⟨⟨y0,y1,y2,y3,y4,y5,y6,y7,y8,y9,y10⟩,fy⟩:=zC4 HM5.out.x
     clear hn hrd hg hs))
  have HM6:Hid (LdM w g w.heap.size X #[.string s1,.string s2,.string s3,.int .i64 0,.int .i64 0,.int .i64 up,.int .i64 0,.string ⟨#[]⟩,.int .i64 0,.int .i64 0,.slice none 0 0] W5 o5 (w5.setCell ⟨X,5,none⟩ (.int .i64 up))):=(HM5.out.put 5 _)
  clear HM HM5 y0 y1 y2 y3 y4 y5 y6 y7 y8 y9 y10 fy
  generalize w5.setCell ⟨X,5,none⟩ (.int .i64 up)=w6 at HM6⊢
  obtain ⟨⟨y0,y1,y2,y3,y4,y5,y6,y7,y8,y9,y10⟩,fy⟩:=zC4 HM6.out.x
  go_upto_region 14 with (first
   |(go_at_call 117
     with_reducible refine (SN.out _ _ _ HM6.out.rd (HM6.out.env HE.out)).mono ?_
     rintro e w7 ⟨wd,W7,o7,rfl,hn,hrd,hg,hs⟩
     have HR7:=LH hn
     have HM7:=LH (HM6.out.step hrd hg)
     have HW7:Hid (∀b,b∈W7→(32:UInt8)∉b.data.toList):=fun b hb=>HW5.out b (hs b hb)
     clear hn hrd hg hs)
   |(go_at_call 117
     with_reducible refine (SN.out _ _ _ HM7.out.rd (HM7.out.env HE.out)).mono ?_
     rintro e w8 ⟨ht,W8,o8,rfl,hn,hrd,hg,hs⟩
     have HR8:=LH hn
     have HM8:=LH (HM7.out.step hrd hg)
     have HW8:Hid (∀b,b∈W8→(32:UInt8)∉b.data.toList):=fun b hb=>HW7.out b (hs b hb)
     obtain ⟨⟨y0,y1,y2,y3,y4,y5,y6,y7,y8,y9,y10⟩,fy⟩:=zC4 HM8.out.x
     clear hn hrd hg hs))
  have HM9:Hid (LdM w g w.heap.size X #[.string s1,.string s2,.string s3,.int .i64 3,.int .i64 0,.int .i64 up,.int .i64 0,.string ⟨#[]⟩,.int .i64 wd,.int .i64 ht,.slice none 0 0] W8 o8 (((w8.setCell ⟨X,3,none⟩ (.int .i64 3)).setCell ⟨X,8,none⟩ (.int .i64 wd)).setCell ⟨X,9,none⟩ (.int .i64 ht))):=(((HM8.out.put 3 _).put 8 _).put 9 _)
  clear HM6 HM7 HM8 y0 y1 y2 y3 y4 y5 y6 y7 y8 y9 y10 fy
  generalize ((w8.setCell ⟨X,3,none⟩ (.int .i64 3)).setCell ⟨X,8,none⟩ (.int .i64 wd)).setCell ⟨X,9,none⟩ (.int .i64 ht)=w9 at HM9⊢
  obtain ⟨⟨y0,y1,y2,y3,y4,y5,y6,y7,y8,y9,y10⟩,fy⟩:=zC4 HM9.out.x
  obtain ⟨⟨r0,r1,r2,r3,r4,r5,r6,r7,r8,r9,r10⟩,fr⟩:=zC4 HM9.out.r
  go_wp2_with fail
  obtain ⟨hbE,hrE,hgE⟩:=lk_out HM9.out (.string s1) (.string s2) (.string s3) (.int .i64 3) (.int .i64 0) (.int .i64 up) (.int .i64 0) (.string ⟨#[]⟩) (.int .i64 wd) (.int .i64 ht) (.slice none 0 0)
  unfold st11 at hbE hrE hgE
  refine bodyPost_ret (v:=.agg #[.string s1,.string s2,.string s3,.int .i64 3,.int .i64 0,.int .i64 up,.int .i64 0,.string ⟨#[]⟩,.int .i64 wd,.int .i64 ht,.slice none 0 0]) (results_cell_row (by rfl) _ _ w.heap.size 64 _ (0,0) _ (by rfl) hbE Tryz.underlying64 (by rfl) (by kernel_rfl)) rfl ⟨⟨s1,s2,s3,3,0,up,0,⟨#[]⟩,wd,ht,[]⟩,none,0,W8,o8,rfl,⟨W1,W2,W3,o1,o2,o3,HR1.out,HR2.out,HR3.out,rfl,.inr (.inr (.inl ⟨rfl,W5,W7,o5,o7,HR5.out,HR7.out,HR8.out,rfl,rfl,rfl,rfl⟩))⟩,TabIn.none' _ _ _,hrE,hgE,fun b off e=>(by cases e)⟩
 ·subst hk1 hk2
  clear HKD
  obtain ⟨⟨y0,y1,y2,y3,y4,y5,y6,y7,y8,y9,y10⟩,fy⟩:=zC4 HM.out.x
  go_upto_region 5 with (first
   |(go_at_call 117
     with_reducible refine (SN.out _ _ _ HM.out.rd (HM.out.env HE.out)).mono ?_
     rintro e w5 ⟨up,W5,o5,rfl,hn,hrd,hg,hs⟩
     have HR5:=LH hn
     have HM5:=LH (HM.out.step hrd hg)
     have HW5:Hid (∀b,b∈W5→(32:UInt8)∉b.data.toList):=fun b hb=>HW3.out b (hs b hb)
     obtain ⟨⟨y0,y1,y2,y3,y4,y5,y6,y7,y8,y9,y10⟩,fy⟩:=zC4 HM5.out.x
     clear hn hrd hg hs))
  have HM6:Hid (LdM w g w.heap.size X #[.string s1,.string s2,.string s3,.int .i64 0,.int .i64 0,.int .i64 up,.int .i64 0,.string ⟨#[]⟩,.int .i64 0,.int .i64 0,.slice none 0 0] W5 o5 (w5.setCell ⟨X,5,none⟩ (.int .i64 up))):=(HM5.out.put 5 _)
  clear HM HM5 y0 y1 y2 y3 y4 y5 y6 y7 y8 y9 y10 fy
  generalize w5.setCell ⟨X,5,none⟩ (.int .i64 up)=w6 at HM6⊢
  obtain ⟨⟨y0,y1,y2,y3,y4,y5,y6,y7,y8,y9,y10⟩,fy⟩:=zC4 HM6.out.x
  go_upto_region 14 with (first
   |(go_at_call 117
     with_reducible refine (SN.out _ _ _ HM6.out.rd (HM6.out.env HE.out)).mono ?_
     rintro e w7 ⟨dn,W7,o7,rfl,hn,hrd,hg,hs⟩
     have HR7:=LH hn
     have HM7:=LH (HM6.out.step hrd hg)
     have HW7:Hid (∀b,b∈W7→(32:UInt8)∉b.data.toList):=fun b hb=>HW5.out b (hs b hb)
     clear hn hrd hg hs)
   |(go_at_call 118
     with_reducible refine (ST.out _ _ _ HM7.out.rd HW7.out (HM7.out.env HE.out)).mono ?_
     rintro e w8 ⟨T,AT,cT,W8,o8,rfl,hn,htb,hta,hrd,hg⟩
     have HR8:=LH hn
     have HTB:=LH htb
     have HTA:Hid (∀b off,AT=some ⟨b,off,none⟩→X<b):=fun b off e=>Nat.lt_of_lt_of_le HM7.out.x.lt (hta b off e)
     have HM8:=LH (HM7.out.step hrd hg)
     obtain ⟨⟨y0,y1,y2,y3,y4,y5,y6,y7,y8,y9,y10⟩,fy⟩:=zC4 HM8.out.x
     clear hn htb hta hrd hg))
  have HM9:Hid (LdM w g w.heap.size X #[.string s1,.string s2,.string s3,.int .i64 4,.int .i64 0,.int .i64 up,.int .i64 dn,.string ⟨#[]⟩,.int .i64 0,.int .i64 0,.slice AT T.length cT] W8 o8 (((w8.setCell ⟨X,3,none⟩ (.int .i64 4)).setCell ⟨X,6,none⟩ (.int .i64 dn)).setCell ⟨X,10,none⟩ (.slice AT T.length cT))):=(((HM8.out.put 3 _).put 6 _).put 10 _)
  have HTBE:=LH (((HTB.out.set HTA.out (i:=3) (.int .i64 4)).set HTA.out (i:=6) (.int .i64 dn)).set HTA.out (i:=10) (.slice AT T.length cT))
  clear HTB
  clear HM6 HM7 HM8 y0 y1 y2 y3 y4 y5 y6 y7 y8 y9 y10 fy
  generalize ((w8.setCell ⟨X,3,none⟩ (.int .i64 4)).setCell ⟨X,6,none⟩ (.int .i64 dn)).setCell ⟨X,10,none⟩ (.slice AT T.length cT)=w9 at HM9 HTBE⊢
  obtain ⟨⟨y0,y1,y2,y3,y4,y5,y6,y7,y8,y9,y10⟩,fy⟩:=zC4 HM9.out.x
  obtain ⟨⟨r0,r1,r2,r3,r4,r5,r6,r7,r8,r9,r10⟩,fr⟩:=zC4 HM9.out.r
  go_wp2_with fail
  obtain ⟨hbE,hrE,hgE⟩:=lk_out HM9.out (.string s1) (.string s2) (.string s3) (.int .i64 4) (.int .i64 0) (.int .i64 up) (.int .i64 dn) (.string ⟨#[]⟩) (.int .i64 0) (.int .i64 0) (.slice AT T.length cT)
  unfold st11 at hbE hrE hgE
  refine bodyPost_ret (v:=.agg #[.string s1,.string s2,.string s3,.int .i64 4,.int .i64 0,.int .i64 up,.int .i64 dn,.string ⟨#[]⟩,.int .i64 0,.int .i64 0,.slice AT T.length cT]) (results_cell_row (by rfl) _ _ w.heap.size 64 _ (0,0) _ (by rfl) hbE Tryz.underlying64 (by rfl) (by kernel_rfl)) rfl ⟨⟨s1,s2,s3,4,0,up,dn,⟨#[]⟩,0,0,T⟩,AT,cT,W8,o8,rfl,⟨W1,W2,W3,o1,o2,o3,HR1.out,HR2.out,HR3.out,rfl,.inr (.inr (.inr ⟨rfl,W5,W7,o5,o7,HR5.out,HR7.out,HR8.out,rfl,rfl,rfl,rfl⟩))⟩,HTBE.out.st11 (fun b off e=>Nat.lt_trans HM9.out.RX (HTA.out b off e)) (.string s1) (.string s2) (.string s3) (.int .i64 4) (.int .i64 0) (.int .i64 up) (.int .i64 dn) (.string ⟨#[]⟩) (.int .i64 0) (.int .i64 0) (.slice AT T.length cT),hrE,hgE,fun b off e=>by have h1:=HTA.out b off e;have h2:=HM9.out.RX;have h3:=HM9.out.Rw;omega⟩
end Go.Proofs.YtghefgifhebniaaGreatDoor

/- The reference's linkOf. -/
import Derived.Test.YtghefgifhebniaaGreatDoorMgU
namespace Go.Proofs.YtghefgifhebniaaGreatDoor
open Go.RowKit
set_option linter.unusedVariables false
set_option linter.unusedSimpArgs false
def zeroL:Array Value:=#[.string ⟨#[]⟩,.string ⟨#[]⟩,.string ⟨#[]⟩,.int .i64 0,.int .i64 0,.int .i64 0,.int .i64 0,.string ⟨#[]⟩,.int .i64 0,.int .i64 0,.slice none 0 0]
def zLk0:Lkr:=⟨⟨#[]⟩,⟨#[]⟩,⟨#[]⟩,0,0,0,0,⟨#[]⟩,0,0,[]⟩
def RLkPost (w:World) (l:List UInt8) (e:Ending) (w':World):Prop:=
 ∃(x:Lkr) (A:Option Addr) (c:Nat) (f:Bool),e= .returned (.tuple #[.agg (lcs x A c).toArray,.bool f])∧TabIn w' A x.T.length (kX x.T) (kY x.T)∧(x.T.length≠0→∀b off,A=some ⟨b,off,none⟩→w.heap.size≤b)∧(f=true→IsLk l x)∧(f=false→∀y,¬IsLk l y)∧Below w.heap.size w w'
theorem blk_st11 {wr:World} {R:Nat} {x0 x1 x2 x3 x4 x5 x6 x7 x8 x9 x10:Value} (h:Blk wr R 64 #[x0,x1,x2,x3,x4,x5,x6,x7,x8,x9,x10]) (a b c d e f i j k l m:Value):Blk (st11 wr R a b c d e f i j k l m) R 64 #[a,b,c,d,e,f,i,j,k,l,m]:=by
 unfold st11
 have hbk:=((((((((((h.set_ 0 a).set_ 1 b).set_ 2 c).set_ 3 d).set_ 4 e).set_ 5 f).set_ 6 i).set_ 7 j).set_ 8 k).set_ 9 l).set_ 10 m
 simp only [sA,sB,sC] at hbk
 exact hbk
theorem below_st11 {B R:Nat} {w wr:World} (h:Below B w wr) (hR:B≤R) (a b c d e f i j k l m:Value):Below B w (st11 wr R a b c d e f i j k l m):=by
 unfold st11
 exact ((((((((((h.setCell (p:=⟨R,0,none⟩) hR a).setCell (p:=⟨R,1,none⟩) hR b).setCell (p:=⟨R,2,none⟩) hR c).setCell (p:=⟨R,3,none⟩) hR d).setCell (p:=⟨R,4,none⟩) hR e).setCell (p:=⟨R,5,none⟩) hR f).setCell (p:=⟨R,6,none⟩) hR i).setCell (p:=⟨R,7,none⟩) hR j).setCell (p:=⟨R,8,none⟩) hR k).setCell (p:=⟨R,9,none⟩) hR l).setCell (p:=⟨R,10,none⟩) hR m
theorem blkX_st11 {wr:World} {R X:Nat} {t:TypeId} {cs:Array Value} (h:Blk wr X t cs) (hX:X≠R) (a b c d e f i j k l m:Value):Blk (st11 wr R a b c d e f i j k l m) X t cs:=by
 unfold st11
 exact ((((((((((h.far (p:=⟨R,0,none⟩) hX a).far (p:=⟨R,1,none⟩) hX b).far (p:=⟨R,2,none⟩) hX c).far (p:=⟨R,3,none⟩) hX d).far (p:=⟨R,4,none⟩) hX e).far (p:=⟨R,5,none⟩) hX f).far (p:=⟨R,6,none⟩) hX i).far (p:=⟨R,7,none⟩) hX j).far (p:=⟨R,8,none⟩) hX k).far (p:=⟨R,9,none⟩) hX l).far (p:=⟨R,10,none⟩) hX m
theorem fin11 {C E:World→Prop} {wr w:World} {x0 x1 x2 x3 x4 x5 x6 x7 x8 x9 x10:Value} (h:Blk wr w.heap.size 64 #[x0,x1,x2,x3,x4,x5,x6,x7,x8,x9,x10]) (hb:Below w.heap.size w wr) {a b c d e f i j k l m:Value} (hE:E (st11 wr w.heap.size a b c d e f i j k l m)) (K:∀wz,Blk wz w.heap.size 64 #[a,b,c,d,e,f,i,j,k,l,m]→Below w.heap.size w wz→E wz→C wz):C (st11 wr w.heap.size a b c d e f i j k l m):=
 K _ (blk_st11 h a b c d e f i j k l m) (below_st11 hb (nl _) a b c d e f i j k l m) hE
theorem fin11d {C E:World→Prop} {wr w:World} {x0 x1 x2 x3 x4 x5 x6 x7 x8 x9 x10:Value} (h:Blk wr w.heap.size 64 #[x0,x1,x2,x3,x4,x5,x6,x7,x8,x9,x10]) (hb:Below w.heap.size w wr) {a b c d e f i j k l m:Value} (hE:E (st11 wr w.heap.size a b c d e f i j k l m).drew) (K:∀wz,Blk wz w.heap.size 64 #[a,b,c,d,e,f,i,j,k,l,m]→Below w.heap.size w wz→E wz→C wz):C (st11 wr w.heap.size a b c d e f i j k l m).drew:=
 K _ (zB8 (blk_st11 h a b c d e f i j k l m)) (below_st11 hb (nl _) a b c d e f i j k l m).drew hE
theorem str_tail2 {w:World} {g:Nat} {k0 nm a b c d:ByteArray} (h:strL w g [k0,nm,a,b,c,d]):StrAt w g 4 2 (fun k=>([c,d]:List ByteArray).getD k ByteArray.empty):=by
 refine ⟨h.1,fun k hk=>?_⟩
 have:=h.2 (k+4) (by show k+4<6;omega)
 rw [Nat.zero_add] at this
 rw [Nat.add_comm 4 k]
 exact this
theorem rnum2_ok (g o c:Nat) (a b:ByteArray) (ha:a.size≤20000) (hb:b.size≤20000) (v0 v1:Int) (n0:NumIs a.data.toList v0) (n1:NumIs b.data.toList v1) (w:World) (ht:StrAt w g o 2 (fun k=>([a,b]:List ByteArray).getD k ByteArray.empty)):
 Calls Tryz.prog 120 #[.slice (some ⟨g,o,none⟩) 2 c] w fun e w'=>∃g2 c2,e= .returned (.tuple #[.slice (some ⟨g2,0,none⟩) 2 c2,.bool true])∧(g2<w'.heap.size∧w'.cell? ⟨g2,0,none⟩=some (.int .i64 v0)∧w'.cell? ⟨g2,1,none⟩=some (.int .i64 v1))∧2≤c2∧Below w.heap.size w w':=by
 have h4:∀k,k<2→k=0∨k=1:=fun k h=>by omega
 refine (rnumbers g o 2 c _ (by omega) (by omega) w ht (fun k hk=>by
  rcases h4 k hk with rfl |rfl
  ·exact nT ha (by omega)
  ·exact nT hb (by omega))).mono ?_
 rintro e w' ⟨⟨V,g2,c2,hV,hn,rfl,hg2,hc2,hcell⟩|⟨⟨k,hk,hno⟩,_⟩,hb'⟩
 ·have e0:=(hn 0 (by omega)).uniq n0
  have e1:=(hn 1 (by omega)).uniq n1
  exact ⟨g2,c2,rfl,⟨hg2,by rw [←e0];exact hcell 0 (by omega),by rw [←e1];exact hcell 1 (by omega)⟩,hc2,hb'⟩
 ·rcases h4 k hk with rfl |rfl
  ·exact absurd n0 (hno v0)
  ·exact absurd n1 (hno v1)
theorem rnum2_no (g o c:Nat) (a b:ByteArray) (ha:a.size≤20000) (hb:b.size≤20000) (hno:¬∃v0 v1,NumIs a.data.toList v0∧NumIs b.data.toList v1) (w:World) (ht:StrAt w g o 2 (fun k=>([a,b]:List ByteArray).getD k ByteArray.empty)):
 Calls Tryz.prog 120 #[.slice (some ⟨g,o,none⟩) 2 c] w fun e w'=>e= .returned (.tuple #[.slice none 0 0,.bool false])∧Below w.heap.size w w':=by
 have h4:∀k,k<2→k=0∨k=1:=fun k h=>by omega
 refine (rnumbers g o 2 c _ (by omega) (by omega) w ht (fun k hk=>by
  rcases h4 k hk with rfl |rfl
  ·exact nT ha (by omega)
  ·exact nT hb (by omega))).mono ?_
 rintro e w' ⟨⟨V,g2,c2,hV,hn,rfl,hg2,hc2,hcell⟩|⟨_,rfl⟩,hb'⟩
 ·exact absurd ⟨_,_,hn 0 (by omega),hn 1 (by omega)⟩ hno
 ·exact ⟨rfl,hb'⟩
theorem in_yes {l:List UInt8} {v:Int} {f:Bool} (h:RIntR l v f) (hf:f=true):NumIs l v:=by
 cases h with
 |ok h=>exact h
 |no h=>cases hf
theorem in_no {l:List UInt8} {v:Int} {f:Bool} (h:RIntR l v f) (hf:f=false):∀u,¬NumIs l u:=by
 cases h with
 |ok h=>cases hf
 |no h=>exact h
theorem eq_yes {k:ByteArray} {l:List UInt8} (h:k.data.toList=l):(k.toList==l)=true:=by rw [Lib.toList_data,h];simp
theorem eq_no {k:ByteArray} {l:List UInt8} (h:k.data.toList≠l):(k.toList==l)=false:=by rw [Lib.toList_data];exact beq_eq_false_iff_ne.2 h
set_option maxRecDepth 100000 in
set_option maxHeartbeats 8000000 in
theorem rlinkOf (s:ByteArray) (hs:s.size≤20000) (h10:(10:UInt8)∉s.data.toList) (w:World):Calls Tryz.prog 82 #[.string s] w (RLkPost w s.data.toList):=by
 have hsz:s.size=s.data.toList.length:=rfl
 have SC:=LH fun w'=>rcut s (by omega) 6 (by omega) (by omega) w'
 have HSZ:=LH hs
 have H10:=LH h10
 have HB0:Hid (Blk (w.alloc (Obj.cells zeroL 64)) w.heap.size 64 zeroL):=Blk.new _ _ _
 have HW0:Hid (Below w.heap.size w (w.alloc (Obj.cells zeroL 64))):=(bR _ w).alloc (nl _) _
 unfold zeroL at HB0 HW0
 clear hs h10 hsz
 go_enter Tryz.func82,Tryz.ntmps82
 go_upto_region 2 with (first
  |(go_at_call 119
    refine (SC.out _).mono ?_
    rintro e w1 ⟨R,r,g,cap,hcr,rfl,hst,hcap,hrs,hg,hb1⟩
    have HR1:=LH (HB0.out.call hb1)
    have HW1:=LH (zA1 HW0.out hb1)
    have HCR:=LH hcr
    have HST:Hid (strL w1 g R):=hst
    have HCP:=LH hcap
    have HRS:=LH hrs
    have HGW:Hid (w.heap.size<g):=by have h1:=HB0.out.lt;show _<_;omega
    clear hcr hst hcap hrs hg hb1))
 clear SC HB0 HW0
 by_cases h6:R.length=6
 case neg=>
  have hle:=(cut_le HCR.out).1
  have T1:decide ((R.length:Int)<6)=true:=by simp;omega
  have HNO:Hid (∀y,¬IsLk s.data.toList y):=fun y=>lk_short HCR.out (by omega) y
  have HF:=HR1.out.frozen
  have hlt:=HR1.out.lt
  obtain ⟨f0,f1,f2,f3,f4,f5,f6,f7,f8,f9,f10⟩:=zA5 HR1.out
  clear h6 hle HRS HCP HST HCR
  go_wp2_with fail
  change bodyPost _ _ _ _ _ (st11 w1 w.heap.size _ _ _ _ _ _ _ _ _ _ _)
  refine fin11 (C:=bodyPost _ _ _ _ _) (E:=fun wz=>TabIn wz none 0 (kX []) (kY [])) HR1.out HW1.out (TabIn.none' _ _ _) fun wz hbk hbl HTB=>?_
  obtain ⟨s0,s1,s2,s3,s4,s5,s6,s7,s8,s9,s10⟩:=zA5 hbk
  refine bodyPost_ret (v:=.tuple #[.agg #[.string ⟨#[]⟩,.string ⟨#[]⟩,.string ⟨#[]⟩,.int .i64 0,.int .i64 0,.int .i64 0,.int .i64 0,.string ⟨#[]⟩,.int .i64 0,.int .i64 0,.slice none 0 0],.bool false]) (by simp [results,Tryz.results82,go_sem,s0,s1,s2,s3,s4,s5,s6,s7,s8,s9,s10]) rfl ⟨zLk0,none,0,false,rfl,HTB,fun _ _ _ e=>(by cases e),fun h=>(by cases h),fun _=>HNO.out,hbl⟩
 rw [h6]
 obtain ⟨t,ht,hTl⟩:=cut_form HCR.out
 obtain ⟨k0,nm,a,b,c,d,rfl⟩:=six h6
 have HTL:=LH hTl
 have HSX:Hid (Six s.data.toList k0 nm a b c d t):=⟨ht⟩
 have hcap:6≤cap:=HCP.out
 obtain ⟨q0,q1,q2,q3,q4,q5⟩:=zA6 HST.out
 have hlg:=HST.out.1
 have HSZ6:Hid (∀x:ByteArray,x.data.toList∈wds s.data.toList→x.size≤20000):=fun x hx=>by
  have:=zI4 s.data.toList _ hx
  have h2:=HSZ.out
  show x.data.toList.length≤20000
  have:s.data.toList.length=s.size:=rfl
  omega
 clear h6 ht hTl
 by_cases hnm:nm.data.toList=[]
 case pos=>
  have T1:(nm.toList==[])=true:=by rw [Lib.toList_data,hnm];rfl
  have HNO:Hid (∀y,¬IsLk s.data.toList y):=fun y hy=>(HSX.out.lk_names hy).1 hnm
  have HF:=HR1.out.frozen
  have hlt:=HR1.out.lt
  obtain ⟨f0,f1,f2,f3,f4,f5,f6,f7,f8,f9,f10⟩:=zA5 HR1.out
  clear hnm HRS HCP HCR HTL HSX hcap HSZ6
  go_wp2_with fail
  change bodyPost _ _ _ _ _ (st11 w1 w.heap.size _ _ _ _ _ _ _ _ _ _ _)
  refine fin11 (C:=bodyPost _ _ _ _ _) (E:=fun wz=>TabIn wz none 0 (kX []) (kY [])) HR1.out HW1.out (TabIn.none' _ _ _) fun wz hbk hbl HTB=>?_
  obtain ⟨s0,s1,s2,s3,s4,s5,s6,s7,s8,s9,s10⟩:=zA5 hbk
  refine bodyPost_ret (v:=.tuple #[.agg #[.string ⟨#[]⟩,.string ⟨#[]⟩,.string ⟨#[]⟩,.int .i64 0,.int .i64 0,.int .i64 0,.int .i64 0,.string ⟨#[]⟩,.int .i64 0,.int .i64 0,.slice none 0 0],.bool false]) (by simp [results,Tryz.results82,go_sem,s0,s1,s2,s3,s4,s5,s6,s7,s8,s9,s10]) rfl ⟨zLk0,none,0,false,rfl,HTB,fun _ _ _ e=>(by cases e),fun h=>(by cases h),fun _=>HNO.out,hbl⟩
 have T1:(nm.toList==[])=false:=by
  rw [Lib.toList_data]
  cases hx:nm.data.toList with
  |nil=>exact absurd hx hnm
  |cons _ _=>rfl
 by_cases hna:a.data.toList=[]
 case pos=>
  have T2:(a.toList==[])=true:=by rw [Lib.toList_data,hna];rfl
  have HNO:Hid (∀y,¬IsLk s.data.toList y):=fun y hy=>(HSX.out.lk_names hy).2.1 hna
  have HF:=HR1.out.frozen
  have hlt:=HR1.out.lt
  obtain ⟨f0,f1,f2,f3,f4,f5,f6,f7,f8,f9,f10⟩:=zA5 HR1.out
  clear hna HRS HCP HCR HTL HSX hcap HSZ6
  go_wp2_with fail
  change bodyPost _ _ _ _ _ (st11 w1 w.heap.size _ _ _ _ _ _ _ _ _ _ _)
  refine fin11 (C:=bodyPost _ _ _ _ _) (E:=fun wz=>TabIn wz none 0 (kX []) (kY [])) HR1.out HW1.out (TabIn.none' _ _ _) fun wz hbk hbl HTB=>?_
  obtain ⟨s0,s1,s2,s3,s4,s5,s6,s7,s8,s9,s10⟩:=zA5 hbk
  refine bodyPost_ret (v:=.tuple #[.agg #[.string ⟨#[]⟩,.string ⟨#[]⟩,.string ⟨#[]⟩,.int .i64 0,.int .i64 0,.int .i64 0,.int .i64 0,.string ⟨#[]⟩,.int .i64 0,.int .i64 0,.slice none 0 0],.bool false]) (by simp [results,Tryz.results82,go_sem,s0,s1,s2,s3,s4,s5,s6,s7,s8,s9,s10]) rfl ⟨zLk0,none,0,false,rfl,HTB,fun _ _ _ e=>(by cases e),fun h=>(by cases h),fun _=>HNO.out,hbl⟩
 have T2:(a.toList==[])=false:=by
  rw [Lib.toList_data]
  cases hx:a.data.toList with
  |nil=>exact absurd hx hna
  |cons _ _=>rfl
 by_cases hnb:b.data.toList=[]
 case pos=>
  have T3:(b.toList==[])=true:=by rw [Lib.toList_data,hnb];rfl
  have HNO:Hid (∀y,¬IsLk s.data.toList y):=fun y hy=>(HSX.out.lk_names hy).2.2 hnb
  have HF:=HR1.out.frozen
  have hlt:=HR1.out.lt
  obtain ⟨f0,f1,f2,f3,f4,f5,f6,f7,f8,f9,f10⟩:=zA5 HR1.out
  clear hnb HRS HCP HCR HTL HSX hcap HSZ6
  go_wp2_with fail
  change bodyPost _ _ _ _ _ (st11 w1 w.heap.size _ _ _ _ _ _ _ _ _ _ _)
  refine fin11 (C:=bodyPost _ _ _ _ _) (E:=fun wz=>TabIn wz none 0 (kX []) (kY [])) HR1.out HW1.out (TabIn.none' _ _ _) fun wz hbk hbl HTB=>?_
  obtain ⟨s0,s1,s2,s3,s4,s5,s6,s7,s8,s9,s10⟩:=zA5 hbk
  refine bodyPost_ret (v:=.tuple #[.agg #[.string ⟨#[]⟩,.string ⟨#[]⟩,.string ⟨#[]⟩,.int .i64 0,.int .i64 0,.int .i64 0,.int .i64 0,.string ⟨#[]⟩,.int .i64 0,.int .i64 0,.slice none 0 0],.bool false]) (by simp [results,Tryz.results82,go_sem,s0,s1,s2,s3,s4,s5,s6,s7,s8,s9,s10]) rfl ⟨zLk0,none,0,false,rfl,HTB,fun _ _ _ e=>(by cases e),fun h=>(by cases h),fun _=>HNO.out,hbl⟩
 have T3:(b.toList==[])=false:=by
  rw [Lib.toList_data]
  cases hx:b.data.toList with
  |nil=>exact absurd hx hnb
  |cons _ _=>rfl
 have HNM:Hid (nm.data.toList≠[]∧a.data.toList≠[]∧b.data.toList≠[]):=⟨hnm,hna,hnb⟩
 have r1:(4:Int)≤(6:Int):=by omega
 have r2:(6:Int)≤(cap:Int):=by omega
 clear hnm hna hnb
 go_upto_region 4 with fail
 have HS:Hid (∀w',Below w1.heap.size w1 w'→w'.cell? ⟨g,1,none⟩=some (.string nm)∧w'.cell? ⟨g,2,none⟩=some (.string a)∧w'.cell? ⟨g,3,none⟩=some (.string b)):=fun w' hb=>⟨(hb.cell (p:=⟨g,1,none⟩) hlg).trans q1,(hb.cell (p:=⟨g,2,none⟩) hlg).trans q2,(hb.cell (p:=⟨g,3,none⟩) hlg).trans q3⟩
 have hs0:=HS.out w1 (bR _ _)
 go_region_held3 (fun w'=>w'.cell? ⟨g,1,none⟩=some (.string nm)∧w'.cell? ⟨g,2,none⟩=some (.string a)∧w'.cell? ⟨g,3,none⟩=some (.string b)) (first |exact hs0 |exact HS.out _ bel) (fail)
 have hal:Below w1.heap.size w1 ((w1.alloc (.cells #[.string nm,.string a,.string b,.int .i64 0,.int .i64 0,.int .i64 0,.int .i64 0,.string ⟨#[]⟩,.int .i64 0,.int .i64 0,.slice none 0 0] 64)).drew):=((bR _ w1).alloc (nl _) _).drew
 have HX2:Hid (Blk ((w1.alloc (.cells #[.string nm,.string a,.string b,.int .i64 0,.int .i64 0,.int .i64 0,.int .i64 0,.string ⟨#[]⟩,.int .i64 0,.int .i64 0,.slice none 0 0] 64)).drew) w1.heap.size 64 #[.string nm,.string a,.string b,.int .i64 0,.int .i64 0,.int .i64 0,.int .i64 0,.string ⟨#[]⟩,.int .i64 0,.int .i64 0,.slice none 0 0]):=Blk.new w1 _ _
 have HR2:=LH (HR1.out.call hal)
 have HW2:=LH (zA1 HW1.out hal)
 have HST2:Hid (strL _ g [k0,nm,a,b,c,d]):=zB6 HST.out hal
 have HXW:Hid (w.heap.size<w1.heap.size∧g≠w1.heap.size):=by have h1:=HR1.out.lt;have h2:=hlg;exact ⟨h1,by omega⟩
 clear hal HS hs0 q0 q1 q2 q3 q4 q5 hlg HST
 generalize (w1.alloc (.cells #[.string nm,.string a,.string b,.int .i64 0,.int .i64 0,.int .i64 0,.int .i64 0,.string ⟨#[]⟩,.int .i64 0,.int .i64 0,.slice none 0 0] 64)).drew=w2 at HX2 HR2 HW2 HST2⊢
 generalize w1.heap.size=X at HX2 HXW⊢
 clear HR1 HW1
 obtain ⟨q0,q1,q2,q3,q4,q5⟩:=zA6 HST2.out
 have hlg:=HST2.out.1
 by_cases hnum:∃v0 v1,NumIs c.data.toList v0∧NumIs d.data.toList v1
 case neg=>
  have SN:Hid (∀cc w',Below w2.heap.size w2 w'→Calls Tryz.prog 120 #[.slice (some ⟨g,4,none⟩) 2 cc] w' fun e w''=>e= .returned (.tuple #[.slice none 0 0,.bool false])∧Below w'.heap.size w' w''):=fun cc w' hb=>rnum2_no g 4 cc c d (HSZ6.out c (by rw [HSX.out.eq];simp)) (HSZ6.out d (by rw [HSX.out.eq];simp)) hnum w' (zB6 (str_tail2 HST2.out) hb)
  have HNO:Hid (∀y,¬IsLk s.data.toList y):=fun y hy=>hnum (HSX.out.lk_num hy)
  clear hnum HRS HCP HCR HTL HSX HSZ6
  go_upto_region 6 with (first
   |(go_at_call 120
     refine (SN.out _ _ (bR _ _)).mono ?_
     rintro e w3 ⟨rfl,hb3⟩
     have HR3:=LH (HR2.out.call hb3)
     have HW3:=LH (zA1 HW2.out hb3)
     clear hb3))
  have HF:=HR3.out.frozen
  have hlt:=HR3.out.lt
  obtain ⟨f0,f1,f2,f3,f4,f5,f6,f7,f8,f9,f10⟩:=zA5 HR3.out
  clear HR2 HW2 q0 q1 q2 q3 q4 q5 hlg
  go_wp2_with fail
  change bodyPost _ _ _ _ _ (st11 w3 w.heap.size _ _ _ _ _ _ _ _ _ _ _)
  refine fin11 (C:=bodyPost _ _ _ _ _) (E:=fun wz=>TabIn wz none 0 (kX []) (kY [])) HR3.out HW3.out (TabIn.none' _ _ _) fun wz hbk hbl HTB=>?_
  obtain ⟨s0,s1,s2,s3,s4,s5,s6,s7,s8,s9,s10⟩:=zA5 hbk
  refine bodyPost_ret (v:=.tuple #[.agg #[.string ⟨#[]⟩,.string ⟨#[]⟩,.string ⟨#[]⟩,.int .i64 0,.int .i64 0,.int .i64 0,.int .i64 0,.string ⟨#[]⟩,.int .i64 0,.int .i64 0,.slice none 0 0],.bool false]) (by simp [results,Tryz.results82,go_sem,s0,s1,s2,s3,s4,s5,s6,s7,s8,s9,s10]) rfl ⟨zLk0,none,0,false,rfl,HTB,fun _ _ _ e=>(by cases e),fun h=>(by cases h),fun _=>HNO.out,hbl⟩
 obtain ⟨v0,v1,n0,n1⟩:=hnum
 have SN:Hid (∀cc w',Below w2.heap.size w2 w'→Calls Tryz.prog 120 #[.slice (some ⟨g,4,none⟩) 2 cc] w' fun e w''=>∃g2 c2,e= .returned (.tuple #[.slice (some ⟨g2,0,none⟩) 2 c2,.bool true])∧(g2<w''.heap.size∧w''.cell? ⟨g2,0,none⟩=some (.int .i64 v0)∧w''.cell? ⟨g2,1,none⟩=some (.int .i64 v1))∧2≤c2∧Below w'.heap.size w' w''):=fun cc w' hb=>rnum2_ok g 4 cc c d (HSZ6.out c (by rw [HSX.out.eq];simp)) (HSZ6.out d (by rw [HSX.out.eq];simp)) v0 v1 n0 n1 w' (zB6 (str_tail2 HST2.out) hb)
 have HNU:Hid (NumIs c.data.toList v0∧NumIs d.data.toList v1):=⟨n0,n1⟩
 clear n0 n1
 go_upto_region 8 with (first
  |(go_at_call 120
    refine (SN.out _ _ (bR _ _)).mono ?_
    rintro e w3 ⟨g2,c2,rfl,hg2,hc2,hb3⟩
    have HX3:=LH (HX2.out.call hb3)
    have HR3:=LH (HR2.out.call hb3)
    have HW3:=LH (zA1 HW2.out hb3)
    have HST3:Hid (strL w3 g [k0,nm,a,b,c,d]):=zB6 HST2.out hb3
    clear hb3))
 obtain ⟨hlg2,p0,p1⟩:=hg2
 have HG2:Hid (g2≠X):=fun e=>by
  have h0:=HX3.out.cell 0
  rw [←e,p0] at h0
  simp at h0
 clear q0 q1 q2 q3 q4 q5 hlg HX2 HR2 HW2 HST2 SN
 obtain ⟨q0,q1,q2,q3,q4,q5⟩:=zA6 HST3.out
 have hlg:=HST3.out.1
 have hr100:r.size≤20000:=nT HRS.out HSZ.out
 have HR100:=LH hr100
 clear hr100
 by_cases hkw:k0.data.toList=zL9
 case pos=>
  have T4:(k0.toList==[119,101,105,114])=true:=eq_yes hkw
  have HKW:=LH hkw
  clear hkw
  obtain ⟨c0,c1,c2',c3,c4,c5,c6,c7,c8,c9,c10⟩:=zA5 HX3.out
  have hfz:=HX3.out.frozen
  have hxl:=HX3.out.lt
  go_upto_region 10 with fail
  clear q0 q1 q2 q3 q4 q5 hlg
  go_region
  have hXR:w.heap.size≠X:=by have:=HXW.out.1;omega
  have HX4:=LH (zB8 (((HX3.out.set_ 3 (.int .i64 2)).set_ 5 (.int .i64 v0)).set_ 8 (.int .i64 v1)))
  have HR4:=LH (zB8 (((HR3.out.far (p:=⟨X,3,none⟩) hXR (.int .i64 2)).far (p:=⟨X,5,none⟩) hXR (.int .i64 v0)).far (p:=⟨X,8,none⟩) hXR (.int .i64 v1)))
  have HW4:=LH ((((HW3.out.setCell (p:=⟨X,3,none⟩) (Nat.le_of_lt HXW.out.1) (.int .i64 2)).setCell (p:=⟨X,5,none⟩) (Nat.le_of_lt HXW.out.1) (.int .i64 v0)).setCell (p:=⟨X,8,none⟩) (Nat.le_of_lt HXW.out.1) (.int .i64 v1)).drew)
  have HST4:=LH (zE0 (zB0 (zB0 (zB0 HST3.out HXW.out.2 3 (.int .i64 2)) HXW.out.2 5 (.int .i64 v0)) HXW.out.2 8 (.int .i64 v1)))
  simp only [sA,sB,sC] at HX4
  clear hXR HX3 HR3 HW3 HST3 c0 c1 c2' c3 c4 c5 c6 c7 c8 c9 c10 hfz hxl
  generalize (((w3.setCell ⟨X,3,none⟩ (.int .i64 2)).setCell ⟨X,5,none⟩ (.int .i64 v0)).setCell ⟨X,8,none⟩ (.int .i64 v1)).drew=w4 at HX4 HR4 HW4 HST4⊢
  clear p0 p1 hlg2
  have SW:Hid (∀w',StrAt w' g 0 6 (fun k=>([k0,nm,a,b,c,d]:List ByteArray).getD k ByteArray.empty)→Calls Tryz.prog 121 #[.slice (some ⟨g,0,none⟩) 6 cap] w' fun e w''=>e= .returned (.string ⟨(jn [k0,nm,a,b,c,d]).toArray⟩)∧w'=w''):=fun w' hst=>rwords g 0 6 cap (fun k=>([k0,nm,a,b,c,d]:List ByteArray).getD k ByteArray.empty) (by omega) w' hst (fun k hk=>by
   have:([k0,nm,a,b,c,d]:List ByteArray).getD k ByteArray.empty∈[k0,nm,a,b,c,d]:=by
        rw [List.getD_eq_getElem?_getD,List.getElem?_eq_getElem (by show k<6;exact hk)]
        exact List.getElem_mem _
   refine nT (HSZ6.out _ ?_) (by omega)
   rw [HSX.out.eq]
   simp only [List.mem_cons,List.not_mem_nil,or_false] at this
   rcases this with h |h |h |h |h |h<;> rw [h]<;> simp)
  obtain ⟨Fl,hFl⟩:∃Fl:Bool,Fl=decide (jn [k0,nm,a,b,c,d]=s.data.toList):=⟨_,rfl⟩
  have T5:((⟨(jn [k0,nm,a,b,c,d]).toArray⟩:ByteArray).toList==s.toList)=Fl:=by rw [hFl];exact str_eqB
  have HFL:=LH hFl
  generalize hjj:(⟨(jn [k0,nm,a,b,c,d]).toArray⟩:ByteArray)=jj at SW T5
  clear hFl hjj
  go_upto_region 11 with fail
  have hst5:StrAt w4.drew g 0 6 _:=HST4.out
  obtain ⟨c0,c1,c2',c3,c4,c5,c6,c7,c8,c9,c10⟩:=zA5 HX4.out
  have hfz:=HX4.out.frozen
  have hxl:=HX4.out.lt
  obtain ⟨f0,f1,f2,f3,f4,f5,f6,f7,f8,f9,f10⟩:=zA5 HR4.out
  have hrf:=HR4.out.frozen
  have hrl:=HR4.out.lt
  have hs0:=zA5 (zB8 HX4.out)
  have hs1:=zA5 (zB8 (blkX_st11 HX4.out (show X≠w.heap.size by have:=HXW.out.1;omega) (.string nm) (.string a) (.string b) (.int .i64 2) (.int .i64 0) (.int .i64 v0) (.int .i64 0) (.string ⟨#[]⟩) (.int .i64 v1) (.int .i64 0) (.slice none 0 0)))
  unfold st11 at hs1
  clear HX4 HST4
  go_region_held3 (fun w'=>w'.cell? ⟨X,0,none⟩=some (.string nm)∧w'.cell? ⟨X,1,none⟩=some (.string a)∧w'.cell? ⟨X,2,none⟩=some (.string b)∧w'.cell? ⟨X,3,none⟩=some (.int .i64 2)∧w'.cell? ⟨X,4,none⟩=some (.int .i64 0)∧w'.cell? ⟨X,5,none⟩=some (.int .i64 v0)∧w'.cell? ⟨X,6,none⟩=some (.int .i64 0)∧w'.cell? ⟨X,7,none⟩=some (.string ⟨#[]⟩)∧w'.cell? ⟨X,8,none⟩=some (.int .i64 v1)∧w'.cell? ⟨X,9,none⟩=some (.int .i64 0)∧w'.cell? ⟨X,10,none⟩=some (.slice none 0 0)) (first |with_reducible exact hs0 |with_reducible exact hs1 |exact hs1) (first
   |(go_at_call 121
     refine (SW.out _ hst5).mono ?_
     rintro e w5 ⟨rfl,rfl⟩))
  go_wp2_with fail
  change bodyPost _ _ _ _ _ (st11 w4 w.heap.size _ _ _ _ _ _ _ _ _ _ _).drew
  refine fin11d (C:=bodyPost _ _ _ _ _) (E:=fun wz=>TabIn wz none 0 (kX []) (kY [])) HR4.out HW4.out (zI5 (TabIn.none' _ _ _)) fun wz hbk hbl HTB=>?_
  obtain ⟨s0,s1,s2,s3,s4,s5,s6,s7,s8,s9,s10⟩:=zA5 hbk
  refine bodyPost_ret (v:=.tuple #[.agg #[.string nm,.string a,.string b,.int .i64 2,.int .i64 0,.int .i64 v0,.int .i64 0,.string ⟨#[]⟩,.int .i64 v1,.int .i64 0,.slice none 0 0],.bool Fl]) (by simp [results,Tryz.results82,go_sem,s0,s1,s2,s3,s4,s5,s6,s7,s8,s9,s10]) rfl ⟨⟨nm,a,b,2,0,v0,0,⟨#[]⟩,v1,0,[]⟩,none,0,Fl,rfl,HTB,fun _ _ _ e=>(by cases e),fun h=>HSX.out.weir_yes H10.out HNM.out HNU.out HKW.out (of_decide_eq_true (by rw [←HFL.out];exact h)),fun h=>HSX.out.weir_no HKW.out (of_decide_eq_false (by rw [←HFL.out];exact h)),hbl⟩
 have T4:(k0.toList==[119,101,105,114])=false:=eq_no hkw
 by_cases hkg:k0.data.toList=kGate
 case pos=>
  have T5:(k0.toList==[103,97,116,101])=true:=eq_yes hkg
  have HKW:=LH hkg
  clear hkw hkg
  have SI:=LH fun w'=>rint r (nT HR100.out (by omega)) w'
  obtain ⟨c0,c1,c2',c3,c4,c5,c6,c7,c8,c9,c10⟩:=zA5 HX3.out
  have hfz:=HX3.out.frozen
  have hxl:=HX3.out.lt
  go_upto_region 13 with fail
  clear q0 q1 q2 q3 q4 q5 hlg
  go_region
  have hXR:w.heap.size≠X:=by have:=HXW.out.1;omega
  have HX4:=LH (zB8 (((HX3.out.set_ 3 (.int .i64 3)).set_ 5 (.int .i64 v0)).set_ 8 (.int .i64 v1)))
  have HR4:=LH (zB8 (((HR3.out.far (p:=⟨X,3,none⟩) hXR (.int .i64 3)).far (p:=⟨X,5,none⟩) hXR (.int .i64 v0)).far (p:=⟨X,8,none⟩) hXR (.int .i64 v1)))
  have HW4:=LH ((((HW3.out.setCell (p:=⟨X,3,none⟩) (Nat.le_of_lt HXW.out.1) (.int .i64 3)).setCell (p:=⟨X,5,none⟩) (Nat.le_of_lt HXW.out.1) (.int .i64 v0)).setCell (p:=⟨X,8,none⟩) (Nat.le_of_lt HXW.out.1) (.int .i64 v1)).drew)
  have HST4:=LH (zE0 (zB0 (zB0 (zB0 HST3.out HXW.out.2 3 (.int .i64 3)) HXW.out.2 5 (.int .i64 v0)) HXW.out.2 8 (.int .i64 v1)))
  simp only [sA,sB,sC] at HX4
  clear hXR HX3 HR3 HW3 HST3 c0 c1 c2' c3 c4 c5 c6 c7 c8 c9 c10 hfz hxl
  generalize (((w3.setCell ⟨X,3,none⟩ (.int .i64 3)).setCell ⟨X,5,none⟩ (.int .i64 v0)).setCell ⟨X,8,none⟩ (.int .i64 v1)).drew=w4 at HX4 HR4 HW4 HST4⊢
  clear p0 p1 hlg2
  obtain ⟨c0,c1,c2',c3,c4,c5,c6,c7,c8,c9,c10⟩:=zA5 HX4.out
  have hfz:=HX4.out.frozen
  have hxl:=HX4.out.lt
  go_upto_region 15 with (first
   |(go_at_call 122
     refine (SI.out _).mono ?_
     rintro e w5 ⟨v,vb,hr,rfl,rfl⟩
     have HRI:=LH hr
     clear hr))
  have hXR:w.heap.size≠X:=by have:=HXW.out.1;omega
  have HX5:=LH (HX4.out.set_ 9 (.int .i64 v))
  have HR5:=LH (HR4.out.far (p:=⟨X,9,none⟩) hXR (.int .i64 v))
  have HW5:=LH (HW4.out.setCell (p:=⟨X,9,none⟩) (Nat.le_of_lt HXW.out.1) (.int .i64 v))
  have HST5:=LH (zB0 HST4.out HXW.out.2 9 (.int .i64 v))
  simp only [sA,sB,sC] at HX5
  clear hXR HX4 HR4 HW4 HST4 c0 c1 c2' c3 c4 c5 c6 c7 c8 c9 c10 hfz hxl
  generalize (w4.setCell ⟨X,9,none⟩ (.int .i64 v))=w5 at HX5 HR5 HW5 HST5⊢
  obtain ⟨c0,c1,c2',c3,c4,c5,c6,c7,c8,c9,c10⟩:=zA5 HX5.out
  have hfz:=HX5.out.frozen
  have hxl:=HX5.out.lt
  obtain ⟨f0,f1,f2,f3,f4,f5,f6,f7,f8,f9,f10⟩:=zA5 HR5.out
  have hrf:=HR5.out.frozen
  have hrl:=HR5.out.lt
  go_wp2_with fail
  change bodyPost _ _ _ _ _ (st11 w5 w.heap.size _ _ _ _ _ _ _ _ _ _ _)
  refine fin11 (C:=bodyPost _ _ _ _ _) (E:=fun wz=>TabIn wz none 0 (kX []) (kY [])) HR5.out HW5.out (TabIn.none' _ _ _) fun wz hbk hbl HTB=>?_
  obtain ⟨s0,s1,s2,s3,s4,s5,s6,s7,s8,s9,s10⟩:=zA5 hbk
  refine bodyPost_ret (v:=.tuple #[.agg #[.string nm,.string a,.string b,.int .i64 3,.int .i64 0,.int .i64 v0,.int .i64 0,.string ⟨#[]⟩,.int .i64 v1,.int .i64 v,.slice none 0 0],.bool vb]) (by simp [results,Tryz.results82,go_sem,s0,s1,s2,s3,s4,s5,s6,s7,s8,s9,s10]) rfl ⟨⟨nm,a,b,3,0,v0,0,⟨#[]⟩,v1,v,[]⟩,none,0,vb,rfl,HTB,fun _ _ _ e=>(by cases e),fun h=>HSX.out.gate_yes H10.out HNM.out HNU.out HKW.out HTL.out (in_yes HRI.out h),fun h=>HSX.out.gate_no HKW.out HTL.out (in_no HRI.out h),hbl⟩
 have T5:(k0.toList==[103,97,116,101])=false:=eq_no hkg
 by_cases hkp:k0.data.toList=kPump
 case pos=>
  have T6:(k0.toList==[112,117,109,112])=true:=eq_yes hkp
  have HKW:=LH hkp
  clear hkw hkg hkp
  obtain ⟨c0,c1,c2',c3,c4,c5,c6,c7,c8,c9,c10⟩:=zA5 HX3.out
  have hfz:=HX3.out.frozen
  have hxl:=HX3.out.lt
  go_upto_region 17 with fail
  clear q0 q1 q2 q3 q4 q5 hlg
  go_region
  have hXR:w.heap.size≠X:=by have:=HXW.out.1;omega
  have HX4:=LH (zB8 (((HX3.out.set_ 3 (.int .i64 4)).set_ 5 (.int .i64 v0)).set_ 6 (.int .i64 v1)))
  have HR4:=LH (zB8 (((HR3.out.far (p:=⟨X,3,none⟩) hXR (.int .i64 4)).far (p:=⟨X,5,none⟩) hXR (.int .i64 v0)).far (p:=⟨X,6,none⟩) hXR (.int .i64 v1)))
  have HW4:=LH ((((HW3.out.setCell (p:=⟨X,3,none⟩) (Nat.le_of_lt HXW.out.1) (.int .i64 4)).setCell (p:=⟨X,5,none⟩) (Nat.le_of_lt HXW.out.1) (.int .i64 v0)).setCell (p:=⟨X,6,none⟩) (Nat.le_of_lt HXW.out.1) (.int .i64 v1)).drew)
  have HST4:=LH (zE0 (zB0 (zB0 (zB0 HST3.out HXW.out.2 3 (.int .i64 4)) HXW.out.2 5 (.int .i64 v0)) HXW.out.2 6 (.int .i64 v1)))
  simp only [sA,sB,sC] at HX4
  clear hXR HX3 HR3 HW3 HST3 c0 c1 c2' c3 c4 c5 c6 c7 c8 c9 c10 hfz hxl
  generalize (((w3.setCell ⟨X,3,none⟩ (.int .i64 4)).setCell ⟨X,5,none⟩ (.int .i64 v0)).setCell ⟨X,6,none⟩ (.int .i64 v1)).drew=w4 at HX4 HR4 HW4 HST4⊢
  clear p0 p1 hlg2
  by_cases hp:∃n X Y,TabOK n X Y∧r.data.toList=txL X Y n
  case pos=>
   have SP:=LH fun w'=>rpar_ok r (nT HR100.out (by omega)) hp w'
   clear hp
   obtain ⟨c0,c1,c2',c3,c4,c5,c6,c7,c8,c9,c10⟩:=zA5 HX4.out
   have hfz:=HX4.out.frozen
   have hxl:=HX4.out.lt
   go_upto_region 19 with (first
        |(go_at_call 123
          refine (SP.out _).mono ?_
          rintro e w5 ⟨T,g3,cp,hT,htt,rfl,hg3,htab,hb2⟩
          have HT:=LH hT
          have HTT:=LH htt
          have HG3:=LH (nT (show w4.heap.size≤_ from hg3) (nl _))
          have HTI:=LH htab
          have HX5:=LH (HX4.out.call hb2)
          have HR5:=LH (HR4.out.call hb2)
          have HW5:=LH (zA1 HW4.out hb2)
          have HST5:Hid (strL w5 g [k0,nm,a,b,c,d]):=zB6 HST4.out hb2
          have hxl5:=HX5.out.lt
          have hfz5:=HX5.out.frozen
          obtain ⟨e0,e1,e2,e3,e4,e5,e6,e7,e8,e9,e10⟩:=zA5 HX5.out
          clear hb2 hT htt hg3 htab))
   have HGX:Hid (X<g3∧w.heap.size<g3):=by have h1:=HG3.out;have h2:=HX4.out.lt;have h3:=HXW.out.1;exact ⟨by omega,by omega⟩
   have HTI6:=LH (TabIn.set (X:=X) (i:=10) HTI.out (fun b off e=>by cases e;exact HGX.out.1) (.slice (some ⟨g3,0,none⟩) T.length cp))
   clear HX4 HR4 HW4 HST4 hxl5 hfz5 e0 e1 e2 e3 e4 e5 e6 e7 e8 e9 e10
   have hXR:w.heap.size≠X:=by have:=HXW.out.1;omega
   have HX6:=LH (HX5.out.set_ 10 (.slice (some ⟨g3,0,none⟩) T.length cp))
   have HR6:=LH (HR5.out.far (p:=⟨X,10,none⟩) hXR (.slice (some ⟨g3,0,none⟩) T.length cp))
   have HW6:=LH (HW5.out.setCell (p:=⟨X,10,none⟩) (Nat.le_of_lt HXW.out.1) (.slice (some ⟨g3,0,none⟩) T.length cp))
   have HST6:=LH (zB0 HST5.out HXW.out.2 10 (.slice (some ⟨g3,0,none⟩) T.length cp))
   simp only [sA,sB,sC] at HX6
   clear hXR HX5 HR5 HW5 HST5 c0 c1 c2' c3 c4 c5 c6 c7 c8 c9 c10 hfz hxl
   generalize (w5.setCell ⟨X,10,none⟩ (.slice (some ⟨g3,0,none⟩) T.length cp))=w6 at HX6 HR6 HW6 HST6 HTI6⊢
   obtain ⟨c0,c1,c2',c3,c4,c5,c6,c7,c8,c9,c10⟩:=zA5 HX6.out
   have hfz:=HX6.out.frozen
   have hxl:=HX6.out.lt
   obtain ⟨f0,f1,f2,f3,f4,f5,f6,f7,f8,f9,f10⟩:=zA5 HR6.out
   have hrf:=HR6.out.frozen
   have hrl:=HR6.out.lt
   go_wp2_with fail
   change bodyPost _ _ _ _ _ (st11 w6 w.heap.size _ _ _ _ _ _ _ _ _ _ _)
   refine fin11 (C:=bodyPost _ _ _ _ _) (E:=fun wz=>TabIn wz (some ⟨g3,0,none⟩) T.length (kX T) (kY T)) HR6.out HW6.out (HTI6.out.st11 (fun b off e=>(by cases e;exact HGX.out.2)) _ _ _ _ _ _ _ _ _ _ _) fun wz hbk hbl HTB=>?_
   obtain ⟨s0,s1,s2,s3,s4,s5,s6,s7,s8,s9,s10⟩:=zA5 hbk
   refine bodyPost_ret (v:=.tuple #[.agg #[.string nm,.string a,.string b,.int .i64 4,.int .i64 0,.int .i64 v0,.int .i64 v1,.string ⟨#[]⟩,.int .i64 0,.int .i64 0,.slice (some ⟨g3,0,none⟩) T.length cp],.bool true]) (by simp [results,Tryz.results82,go_sem,s0,s1,s2,s3,s4,s5,s6,s7,s8,s9,s10]) rfl ⟨⟨nm,a,b,4,0,v0,v1,⟨#[]⟩,0,0,T⟩,(some ⟨g3,0,none⟩),cp,true,rfl,HTB,fun _ b off e=>(by cases e;exact Nat.le_of_lt HGX.out.2),fun _=>HSX.out.pump_yes H10.out HNM.out HNU.out HKW.out HT.out (HTT.out _ HTL.out),fun h=>(by cases h),hbl⟩
  case neg=>
   have SP:=LH fun w'=>rpar_no r (nT HR100.out (by omega)) hp w'
   have HPN:Hid (∀T,tabT T→t≠twd T):=fun T hT=>par_none hp HTL.out T hT
   clear hp
   obtain ⟨c0,c1,c2',c3,c4,c5,c6,c7,c8,c9,c10⟩:=zA5 HX4.out
   have hfz:=HX4.out.frozen
   have hxl:=HX4.out.lt
   go_upto_region 19 with (first
        |(go_at_call 123
          refine (SP.out _).mono ?_
          rintro e w5 ⟨rfl,hb2⟩
          have HX5:=LH (HX4.out.call hb2)
          have HR5:=LH (HR4.out.call hb2)
          have HW5:=LH (zA1 HW4.out hb2)
          have HST5:Hid (strL w5 g [k0,nm,a,b,c,d]):=zB6 HST4.out hb2
          have hxl5:=HX5.out.lt
          have hfz5:=HX5.out.frozen
          obtain ⟨e0,e1,e2,e3,e4,e5,e6,e7,e8,e9,e10⟩:=zA5 HX5.out
          clear hb2))
   clear HX4 HR4 HW4 HST4 hxl5 hfz5 e0 e1 e2 e3 e4 e5 e6 e7 e8 e9 e10
   have hXR:w.heap.size≠X:=by have:=HXW.out.1;omega
   have HX6:=LH (HX5.out.set_ 10 (.slice none 0 0))
   have HR6:=LH (HR5.out.far (p:=⟨X,10,none⟩) hXR (.slice none 0 0))
   have HW6:=LH (HW5.out.setCell (p:=⟨X,10,none⟩) (Nat.le_of_lt HXW.out.1) (.slice none 0 0))
   have HST6:=LH (zB0 HST5.out HXW.out.2 10 (.slice none 0 0))
   simp only [sA,sB,sC] at HX6
   clear hXR HX5 HR5 HW5 HST5 c0 c1 c2' c3 c4 c5 c6 c7 c8 c9 c10 hfz hxl
   generalize (w5.setCell ⟨X,10,none⟩ (.slice none 0 0))=w6 at HX6 HR6 HW6 HST6⊢
   obtain ⟨c0,c1,c2',c3,c4,c5,c6,c7,c8,c9,c10⟩:=zA5 HX6.out
   have hfz:=HX6.out.frozen
   have hxl:=HX6.out.lt
   obtain ⟨f0,f1,f2,f3,f4,f5,f6,f7,f8,f9,f10⟩:=zA5 HR6.out
   have hrf:=HR6.out.frozen
   have hrl:=HR6.out.lt
   go_wp2_with fail
   change bodyPost _ _ _ _ _ (st11 w6 w.heap.size _ _ _ _ _ _ _ _ _ _ _)
   refine fin11 (C:=bodyPost _ _ _ _ _) (E:=fun wz=>TabIn wz none 0 (kX []) (kY [])) HR6.out HW6.out (TabIn.none' _ _ _) fun wz hbk hbl HTB=>?_
   obtain ⟨s0,s1,s2,s3,s4,s5,s6,s7,s8,s9,s10⟩:=zA5 hbk
   refine bodyPost_ret (v:=.tuple #[.agg #[.string nm,.string a,.string b,.int .i64 4,.int .i64 0,.int .i64 v0,.int .i64 v1,.string ⟨#[]⟩,.int .i64 0,.int .i64 0,.slice none 0 0],.bool false]) (by simp [results,Tryz.results82,go_sem,s0,s1,s2,s3,s4,s5,s6,s7,s8,s9,s10]) rfl ⟨⟨nm,a,b,4,0,v0,v1,⟨#[]⟩,0,0,[]⟩,none,0,false,rfl,HTB,fun _ _ _ e=>(by cases e),fun h=>(by cases h),fun _=>HSX.out.pump_no HKW.out HPN.out,hbl⟩
 have T6:(k0.toList==[112,117,109,112])=false:=eq_no hkp
 by_cases hki:k0.data.toList=kPipe
 case neg=>
  have T7:(k0.toList==[112,105,112,101])=false:=eq_no hki
  have HNO:Hid (∀y,¬IsLk s.data.toList y):=fun y=>HSX.out.lk_other hkw hkg hkp hki y
  clear hkw hkg hkp hki
  obtain ⟨f0,f1,f2,f3,f4,f5,f6,f7,f8,f9,f10⟩:=zA5 HR3.out
  have hrf:=HR3.out.frozen
  have hrl:=HR3.out.lt
  go_wp2_with fail
  change bodyPost _ _ _ _ _ (st11 w3 w.heap.size _ _ _ _ _ _ _ _ _ _ _)
  refine fin11 (C:=bodyPost _ _ _ _ _) (E:=fun wz=>TabIn wz none 0 (kX []) (kY [])) HR3.out HW3.out (TabIn.none' _ _ _) fun wz hbk hbl HTB=>?_
  obtain ⟨s0,s1,s2,s3,s4,s5,s6,s7,s8,s9,s10⟩:=zA5 hbk
  refine bodyPost_ret (v:=.tuple #[.agg #[.string ⟨#[]⟩,.string ⟨#[]⟩,.string ⟨#[]⟩,.int .i64 0,.int .i64 0,.int .i64 0,.int .i64 0,.string ⟨#[]⟩,.int .i64 0,.int .i64 0,.slice none 0 0],.bool false]) (by simp [results,Tryz.results82,go_sem,s0,s1,s2,s3,s4,s5,s6,s7,s8,s9,s10]) rfl ⟨zLk0,none,0,false,rfl,HTB,fun _ _ _ e=>(by cases e),fun h=>(by cases h),fun _=>HNO.out,hbl⟩
 have T7:(k0.toList==[112,105,112,101])=true:=eq_yes hki
 have HKW:=LH hki
 clear hkw hkg hkp hki
 have SC2:=LH fun w'=>rcut r (nT HR100.out (by omega)) 1 (by omega) (by omega) w'
 obtain ⟨c0,c1,c2',c3,c4,c5,c6,c7,c8,c9,c10⟩:=zA5 HX3.out
 have hfz:=HX3.out.frozen
 have hxl:=HX3.out.lt
 go_upto_region 21 with fail
 clear q0 q1 q2 q3 q4 q5 hlg
 go_region
 have hXR:w.heap.size≠X:=by have:=HXW.out.1;omega
 have HX4:=LH (zB8 (((HX3.out.set_ 3 (.int .i64 1)).set_ 4 (.int .i64 v0)).set_ 5 (.int .i64 v1)))
 have HR4:=LH (zB8 (((HR3.out.far (p:=⟨X,3,none⟩) hXR (.int .i64 1)).far (p:=⟨X,4,none⟩) hXR (.int .i64 v0)).far (p:=⟨X,5,none⟩) hXR (.int .i64 v1)))
 have HW4:=LH ((((HW3.out.setCell (p:=⟨X,3,none⟩) (Nat.le_of_lt HXW.out.1) (.int .i64 1)).setCell (p:=⟨X,4,none⟩) (Nat.le_of_lt HXW.out.1) (.int .i64 v0)).setCell (p:=⟨X,5,none⟩) (Nat.le_of_lt HXW.out.1) (.int .i64 v1)).drew)
 have HST4:=LH (zE0 (zB0 (zB0 (zB0 HST3.out HXW.out.2 3 (.int .i64 1)) HXW.out.2 4 (.int .i64 v0)) HXW.out.2 5 (.int .i64 v1)))
 simp only [sA,sB,sC] at HX4
 clear hXR HX3 HR3 HW3 HST3 c0 c1 c2' c3 c4 c5 c6 c7 c8 c9 c10 hfz hxl
 generalize (((w3.setCell ⟨X,3,none⟩ (.int .i64 1)).setCell ⟨X,4,none⟩ (.int .i64 v0)).setCell ⟨X,5,none⟩ (.int .i64 v1)).drew=w4 at HX4 HR4 HW4 HST4⊢
 clear p0 p1 hlg2
 obtain ⟨c0,c1,c2',c3,c4,c5,c6,c7,c8,c9,c10⟩:=zA5 HX4.out
 have hfz:=HX4.out.frozen
 have hxl:=HX4.out.lt
 go_upto_region 23 with (first
  |(go_at_call 119
    refine (SC2.out _).mono ?_
    rintro e w5 ⟨R2,r2,g4,cap4,hcr,rfl,hst,hcap4,hrs,hg4,hb6⟩
    have hl1:R2.length=1:=by
     have h1:=cut_le hcr
     have h2:=h1.2 (by omega)
     have h3:R2.length≠0:=fun e=>h2 (List.length_eq_zero_iff.1 e)
     omega
    rw [hl1]
    have HX5:=LH (HX4.out.call hb6)
    have HR5:=LH (HR4.out.call hb6)
    have HW5:=LH (zA1 HW4.out hb6)
    have HST5:Hid (strL w5 g [k0,nm,a,b,c,d]):=zB6 HST4.out hb6
    have HCR2:=LH hcr
    have HST9:Hid (strL w5 g4 R2):=hst
    have HRS2:=LH hrs
    have HCP4:Hid (1≤cap4):=by show _≤_;omega
    clear hcr hst hrs hg4 hcap4 hb6))
 obtain ⟨m0,rfl⟩:=one hl1
 clear hl1
 obtain ⟨t2,htl2,htt2⟩:=tl_cut HTL.out HCR2.out
 have HT2:=LH htl2
 have HTT2:=LH htt2
 have hm0:w5.cell? ⟨g4,0,none⟩=some (.string m0):=by
  have h9:=HST9.out.2 0 (by show 0<1;omega)
  exact h9
 have hg4l:=HST9.out.1
 have hr2:r2.size≤20000:=nT HRS2.out HR100.out
 have hm0s:m0.size≤20000:=by
  have h1:m0.data.toList∈wds r.data.toList:=by
   obtain ⟨t3,h3,_⟩:=cut_form HCR2.out
   rw [h3];simp [lm]
  have h2:=zI4 _ _ h1
  have h3:=HR100.out
  show m0.data.toList.length≤20000
  have:r.data.toList.length=r.size:=rfl
  omega
 have hcp4:1≤cap4:=HCP4.out
 have SI:=LH fun w'=>rint m0 (nT hm0s (by omega)) w'
 have SC3:=LH fun w'=>rcut r2 (nT hr2 (by omega)) 2 (by omega) (by omega) w'
 clear htl2 htt2 HST9 hr2 hm0s HX4 HR4 HW4 HST4 c0 c1 c2' c3 c4 c5 c6 c7 c8 c9 c10 hfz hxl
 obtain ⟨c0,c1,c2',c3,c4,c5,c6,c7,c8,c9,c10⟩:=zA5 HX5.out
 have hfz:=HX5.out.frozen
 have hxl:=HX5.out.lt
 go_upto_region 24 with (first
  |(go_at_call 122
    refine (SI.out _).mono ?_
    rintro e w6 ⟨v,vb,hr,rfl,rfl⟩
    have HRI:=LH hr
    clear hr))
 have hXR:w.heap.size≠X:=by have:=HXW.out.1;omega
 have HX7:=LH (HX5.out.set_ 6 (.int .i64 v))
 have HR7:=LH (HR5.out.far (p:=⟨X,6,none⟩) hXR (.int .i64 v))
 have HW7:=LH (HW5.out.setCell (p:=⟨X,6,none⟩) (Nat.le_of_lt HXW.out.1) (.int .i64 v))
 have HST7:=LH (zB0 HST5.out HXW.out.2 6 (.int .i64 v))
 simp only [sA,sB,sC] at HX7
 clear hXR HX5 HR5 HW5 HST5 c0 c1 c2' c3 c4 c5 c6 c7 c8 c9 c10 hfz hxl
 generalize (w5.setCell ⟨X,6,none⟩ (.int .i64 v))=w7 at HX7 HR7 HW7 HST7⊢
 clear hm0 hg4l
 obtain ⟨c0,c1,c2',c3,c4,c5,c6,c7,c8,c9,c10⟩:=zA5 HX7.out
 have hfz:=HX7.out.frozen
 have hxl:=HX7.out.lt
 go_upto_region 25 with fail
 have hXR:w.heap.size≠X:=by have:=HXW.out.1;omega
 have HX8:=LH (HX7.out.set_ 7 (.string r2))
 have HR8:=LH (HR7.out.far (p:=⟨X,7,none⟩) hXR (.string r2))
 have HW8:=LH (HW7.out.setCell (p:=⟨X,7,none⟩) (Nat.le_of_lt HXW.out.1) (.string r2))
 have HST8:=LH (zB0 HST7.out HXW.out.2 7 (.string r2))
 simp only [sA,sB,sC] at HX8
 clear hXR HX7 HR7 HW7 HST7 c0 c1 c2' c3 c4 c5 c6 c7 c8 c9 c10 hfz hxl
 generalize (w7.setCell ⟨X,7,none⟩ (.string r2))=w8 at HX8 HR8 HW8 HST8⊢
 obtain ⟨c0,c1,c2',c3,c4,c5,c6,c7,c8,c9,c10⟩:=zA5 HX8.out
 have hfz:=HX8.out.frozen
 have hxl:=HX8.out.lt
 go_upto_region 26 with (first
  |(go_at_call 119
    refine (SC3.out _).mono ?_
    rintro e w9 ⟨R3,r3,g5,cap5,hcr,rfl,hst,hcap5,hrs,hg5,hb6⟩
    have HX9:=LH (HX8.out.call hb6)
    have HR9:=LH (HR8.out.call hb6)
    have HW9:=LH (zA1 HW8.out hb6)
    have HCR3:=LH hcr
    clear hcr hst hrs hg5 hcap5 hb6))
 clear HX8 HR8 HW8 HST8 c0 c1 c2' c3 c4 c5 c6 c7 c8 c9 c10 hfz hxl
 obtain ⟨c0,c1,c2',c3,c4,c5,c6,c7,c8,c9,c10⟩:=zA5 HX9.out
 have hfz:=HX9.out.frozen
 have hxl:=HX9.out.lt
 obtain ⟨f0,f1,f2,f3,f4,f5,f6,f7,f8,f9,f10⟩:=zA5 HR9.out
 have hrf:=HR9.out.frozen
 have hrl:=HR9.out.lt
 cases vb with
 |false=>
  go_wp2_with fail
  change bodyPost _ _ _ _ _ (st11 w9 w.heap.size _ _ _ _ _ _ _ _ _ _ _)
  refine fin11 (C:=bodyPost _ _ _ _ _) (E:=fun wz=>TabIn wz none 0 (kX []) (kY [])) HR9.out HW9.out (TabIn.none' _ _ _) fun wz hbk hbl HTB=>?_
  obtain ⟨s0,s1,s2,s3,s4,s5,s6,s7,s8,s9,s10⟩:=zA5 hbk
  refine bodyPost_ret (v:=.tuple #[.agg #[.string nm,.string a,.string b,.int .i64 1,.int .i64 v0,.int .i64 v1,.int .i64 v,.string r2,.int .i64 0,.int .i64 0,.slice none 0 0],.bool false]) (by simp [results,Tryz.results82,go_sem,s0,s1,s2,s3,s4,s5,s6,s7,s8,s9,s10]) rfl ⟨⟨nm,a,b,1,v0,v1,v,r2,0,0,[]⟩,none,0,false,rfl,HTB,fun _ _ _ e=>(by cases e),fun h=>(by cases h),fun _ y hy=>in_no HRI.out rfl _ (HSX.out.pipe HKW.out HT2.out HTT2.out hy).1,hbl⟩
 |true=>
  by_cases hl3:R3.length=1
  case neg=>
   have T8:((R3.length:Int)==1)=false:=by rw [beq_eq_false_iff_ne];omega
   have HL3:=LH hl3
   clear hl3
   go_wp2_with fail
   change bodyPost _ _ _ _ _ (st11 w9 w.heap.size _ _ _ _ _ _ _ _ _ _ _)
   refine fin11 (C:=bodyPost _ _ _ _ _) (E:=fun wz=>TabIn wz none 0 (kX []) (kY [])) HR9.out HW9.out (TabIn.none' _ _ _) fun wz hbk hbl HTB=>?_
   obtain ⟨s0,s1,s2,s3,s4,s5,s6,s7,s8,s9,s10⟩:=zA5 hbk
   refine bodyPost_ret (v:=.tuple #[.agg #[.string nm,.string a,.string b,.int .i64 1,.int .i64 v0,.int .i64 v1,.int .i64 v,.string r2,.int .i64 0,.int .i64 0,.slice none 0 0],.bool false]) (by simp [results,Tryz.results82,go_sem,s0,s1,s2,s3,s4,s5,s6,s7,s8,s9,s10]) rfl ⟨⟨nm,a,b,1,v0,v1,v,r2,0,0,[]⟩,none,0,false,rfl,HTB,fun _ _ _ e=>(by cases e),fun h=>(by cases h),fun _ y hy=>HL3.out ((one_word HCR3.out).2 (HSX.out.pipe HKW.out HT2.out HTT2.out hy).2.2),hbl⟩
  have HL3:=LH hl3
  have T8:((R3.length:Int)==1)=true:=by rw [beq_iff_eq];omega
  clear hl3
  by_cases hre:r2.data.toList=[]
  case pos=>
   have T9:(r2.toList !=[])=false:=by rw [Lib.toList_data,hre];rfl
   have h9e:r2.toList=[]:=by rw [Lib.toList_data,hre]
   have HRE:=LH hre
   clear hre
   go_wp2_with fail
   change bodyPost _ _ _ _ _ (st11 w9 w.heap.size _ _ _ _ _ _ _ _ _ _ _)
   refine fin11 (C:=bodyPost _ _ _ _ _) (E:=fun wz=>TabIn wz none 0 (kX []) (kY [])) HR9.out HW9.out (TabIn.none' _ _ _) fun wz hbk hbl HTB=>?_
   obtain ⟨s0,s1,s2,s3,s4,s5,s6,s7,s8,s9,s10⟩:=zA5 hbk
   refine bodyPost_ret (v:=.tuple #[.agg #[.string nm,.string a,.string b,.int .i64 1,.int .i64 v0,.int .i64 v1,.int .i64 v,.string r2,.int .i64 0,.int .i64 0,.slice none 0 0],.bool false]) (by simp [results,Tryz.results82,go_sem,s0,s1,s2,s3,s4,s5,s6,s7,s8,s9,s10,h9e]) rfl ⟨⟨nm,a,b,1,v0,v1,v,r2,0,0,[]⟩,none,0,false,rfl,HTB,fun _ _ _ e=>(by cases e),fun h=>(by cases h),fun _ y hy=>(HSX.out.pipe HKW.out HT2.out HTT2.out hy).2.1 HRE.out,hbl⟩
  have T9:(r2.toList !=[])=true:=by
   rw [Lib.toList_data]
   exact bne_iff_ne.2 hre
  have h9e:¬r2.toList=[]:=by rw [Lib.toList_data];exact hre
  have HRE:=LH hre
  clear hre
  go_wp2_with fail
  change bodyPost _ _ _ _ _ (st11 w9 w.heap.size _ _ _ _ _ _ _ _ _ _ _)
  refine fin11 (C:=bodyPost _ _ _ _ _) (E:=fun wz=>TabIn wz none 0 (kX []) (kY [])) HR9.out HW9.out (TabIn.none' _ _ _) fun wz hbk hbl HTB=>?_
  obtain ⟨s0,s1,s2,s3,s4,s5,s6,s7,s8,s9,s10⟩:=zA5 hbk
  refine bodyPost_ret (v:=.tuple #[.agg #[.string nm,.string a,.string b,.int .i64 1,.int .i64 v0,.int .i64 v1,.int .i64 v,.string r2,.int .i64 0,.int .i64 0,.slice none 0 0],.bool true]) (by simp [results,Tryz.results82,go_sem,s0,s1,s2,s3,s4,s5,s6,s7,s8,s9,s10,h9e]) rfl ⟨⟨nm,a,b,1,v0,v1,v,r2,0,0,[]⟩,none,0,true,rfl,HTB,fun _ _ _ e=>(by cases e),fun _=>HSX.out.pipe_yes H10.out HNM.out HNU.out HKW.out HT2.out HTT2.out (in_yes HRI.out rfl) HRE.out ((one_word HCR3.out).1 HL3.out),fun h=>(by cases h),hbl⟩
end Go.Proofs.YtghefgifhebniaaGreatDoor

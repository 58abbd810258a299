/- Merged texts of these proofs: NetF, HaL, NetQ, Lg6. -/
import Derived.Test.YtghefgifhebniaaGreatDoorMgP
import Derived.Test.YtghefgifhebniaaGreatDoorMgQ
namespace Go.Proofs.YtghefgifhebniaaGreatDoor
open Go.RowKit
set_option linter.unusedVariables false
set_option linter.unusedSimpArgs false
def FndV (X:Nat→ByteArray) (n:Nat) (s:ByteArray) (v:Int):Prop:=∃k,FirstAt (fun j=>decide (X j=s)) n k∧v=if k<n then (k:Int) else -1
theorem first_uniq {p:Nat→Bool} {n k k':Nat} (h:FirstAt p n k) (h':FirstAt p n k'):k=k':=by
 rcases Nat.lt_trichotomy k k' with g |g |g
 ·have a:=h'.2.1 k g
  have b:=h.2.2 (by have:=h'.1;omega)
  rw [a] at b;cases b
 ·exact g
 ·have a:=h.2.1 k' g
  have b:=h'.2.2 (by have:=h.1;omega)
  rw [a] at b;cases b
theorem FndV.ex (X:Nat→ByteArray) (n:Nat) (s:ByteArray):∃v,FndV X n s v:=by
 obtain ⟨k,hk⟩:=first_ex (fun j=>decide (X j=s)) n
 exact ⟨_,k,hk,rfl⟩
theorem FndV.uniq {X:Nat→ByteArray} {n:Nat} {s:ByteArray} {v v':Int} (h:FndV X n s v) (h':FndV X n s v'):v=v':=by
 obtain ⟨k,hk,e⟩:=h
 obtain ⟨k',hk',e'⟩:=h'
 rw [e,e',first_uniq hk hk']
noncomputable def fnd (X:Nat→ByteArray) (n:Nat) (s:ByteArray):Int:=(FndV.ex X n s).choose
theorem zJ1 (X:Nat→ByteArray) (n:Nat) (s:ByteArray):FndV X n s (fnd X n s):=(FndV.ex X n s).choose_spec
theorem fnd_at {X:Nat→ByteArray} {n k:Nat} {s:ByteArray} (h:FirstAt (fun j=>decide (X j=s)) n k):fnd X n s=if k<n then (k:Int) else -1:=(zJ1 X n s).uniq ⟨k,h,rfl⟩
theorem fnd_bd (X:Nat→ByteArray) (n:Nat) (s:ByteArray):(fnd X n s= -1)∨∃k:Nat,k<n∧fnd X n s=(k:Int)∧X k=s:=by
 obtain ⟨k,hk,e⟩:=zJ1 X n s
 by_cases h:k<n
 ·rw [if_pos h] at e
  exact .inr ⟨k,h,e,of_decide_eq_true (hk.2.2 h)⟩
 ·rw [if_neg h] at e
  exact .inl e
set_option maxRecDepth 100000 in
theorem p_node (nm s:ByteArray) (kd ax ay iv gd:Int) (A:Option Addr) (n c:Nat) (pt:Bool) (rs:Int) (g:Nat) (f:Bool) (hf:f=decide (nm=s)) (w:World) (hy:w.cell? ⟨g,0,none⟩=some (.string s)) (hg:g<w.heap.size):
 Calls Tryz.prog 105 #[.agg #[.string nm,.int .i64 kd,.int .i64 ax,.int .i64 ay,.int .i64 iv,.int .i64 gd,.slice A n c,.bool pt,.int .i64 rs],.pointer (some ⟨g,0,none⟩)] w fun e w'=>e= .returned (.bool f)∧Below w.heap.size w w':=by
 by_cases h:nm=s
 ·subst h
  obtain rfl:f=true:=by rw [hf];simp
  clear hf
  go_enter Tryz.func105,Tryz.ntmps105
  go_wp2_with fail
  go_ret
  exact ⟨by first |rfl |(simp;done),bel⟩
 ·have t1:¬nm.toList=s.toList:=fun e=>h (zC1 e)
  have t2:(nm.toList==s.toList)=false:=by simp [t1]
  obtain rfl:f=false:=by rw [hf];exact dF h
  clear hf h
  go_enter Tryz.func105,Tryz.ntmps105
  go_wp2_with fail
  go_ret
  exact ⟨by first |rfl |(simp;done),bel⟩
set_option maxRecDepth 100000 in
set_option maxHeartbeats 2000000 in
theorem find_node (A:Option Addr) (n c:Nat) (D:Nds) (s:ByteArray) (g:Nat) (w:World) (h2:n≤2000) (ht:NdIn w A n D) (hy:w.cell? ⟨g,0,none⟩=some (.string s)) (hg:g<w.heap.size):
 Calls Tryz.prog 95 #[.slice A n c,.func (.func 105) #[] #[.pointer (some ⟨g,0,none⟩)]] w fun e w'=>e= .returned (.int .i64 (fnd D.Nm n s))∧Below w.heap.size w w':=by
 obtain ⟨k,hk,hv⟩:=zJ1 D.Nm n s
 generalize fnd D.Nm n s=v at hv⊢
 have HT:=LH ht
 have HK:=LH hk
 have H2:=LH h2
 have HV:=LH hv
 have HY:=LH hy
 clear hy ht hk h2 hv
 go_enter Tryz.func95,Tryz.ntmps95
 go_wp2_with fail
 go_loopw [8] (fun u wr=>∃i:Nat,Hid (i≤n∧i≤k)∧u= .int .i64 i∧Hid (Below w.heap.size w wr)) (fun u _=>n - (RowKit.intOf u).toNat)
 case atStart=>exact ⟨0,⟨Nat.zero_le _,Nat.zero_le _⟩,rfl,bR _ _⟩
 case round=>
  obtain ⟨i,Hi,rfl,HW⟩:=hrel
  by_cases hlt:i<n
  ·have T0:decide ((i:Int)<(n:Int))=true:=by simp<;> omega
   have T0':decide (i<n)=true:=dT hlt
   obtain ⟨i',hi'⟩:∃z,z=i+1:=⟨_,rfl⟩
   have x0:IntKind.i64.wrap ((i:Int)+1)=(i':Int):=by have:=H2.out;rw [IntKind.wrap_i64];omega
   obtain ⟨b,off,rfl,hb,hC,_⟩:=(HT.out.below (nl _) HW.out).at hlt
   have c0:=hC 0 _ rfl
   have c1:=hC 1 _ rfl
   have c2:=hC 2 _ rfl
   have c3:=hC 3 _ rfl
   have c4:=hC 4 _ rfl
   have c5:=hC 5 _ rfl
   have c6:=hC 6 _ rfl
   have c7:=hC 7 _ rfl
   have c8:=hC 8 _ rfl
   have k0:(0:Int)≤(i:Int):=by omega
   have k1:(i:Int)<(n:Int):=by omega
   have hyr:wr.cell? ⟨g,0,none⟩=some (.string s):=(HW.out.cell (p:=⟨g,0,none⟩) hg).trans HY.out
   have hgr:g<wr.heap.size:=Nat.lt_of_lt_of_le hg HW.out.size
   have HMS:Hid (n - (RowKit.intOf (Value.int .i64 (i':Int))).toNat<n - (RowKit.intOf (Value.int .i64 (i:Int))).toNat):=by show _<_;simp [RowKit.intOf];omega
   rcases zI1 HK.out hlt Hi.out.2 with ⟨hp,hik⟩|⟨hp,hik⟩
   ·have KK:=LH (p_node (D.Nm i) s (D.Kd i) (D.Ax i) (D.Ay i) (D.Iv i) (D.Gd i) (D.SA i) (D.SN i) (D.SC i) (D.Pt i) (D.Rs i) g true hp.symm wr hyr hgr)
    have HR:Hid ((i:Int)=v):=by show (i:Int)=v;rw [HV.out,hik,if_pos (by omega)]
    simp only [Nat.add_zero] at c0
    clear hi' hp hik hC hyr hgr
    go_wp2_with (first |(go_at_call 105;(with_reducible refine (KK.out).mono ?_);rintro e w1 ⟨rfl,hb1⟩;obtain ⟨hc1,hf1⟩:=zA4 hb1;have hz1:=hb1.size;(try simp at hz1);(try simp only [heap_drew,World.heap_drewN] at hz1 hc1 hf1);(try have y0:w.heap.size<w1.heap.size:=by omega)))
    go_ret
    refine ⟨zE1 HR.out,?_⟩
    have:=HW.out
    exact bel
   ·have KK:=LH (p_node (D.Nm i) s (D.Kd i) (D.Ax i) (D.Ay i) (D.Iv i) (D.Gd i) (D.SA i) (D.SN i) (D.SC i) (D.Pt i) (D.Rs i) g false hp.symm wr hyr hgr)
    have HI':Hid (i'≤n∧i'≤k):=by show _∧_;omega
    simp only [Nat.add_zero] at c0
    clear hi' hp hik hC hyr hgr
    go_wp2_with (first |(go_at_call 105;(with_reducible refine (KK.out).mono ?_);rintro e w1 ⟨rfl,hb1⟩;obtain ⟨hc1,hf1⟩:=zA4 hb1;have hz1:=hb1.size;(try simp at hz1);(try simp only [heap_drew,World.heap_drewN] at hz1 hc1 hf1);(try have y0:w.heap.size<w1.heap.size:=by omega)))
    go_roundw
    case rel=>exact ⟨i',HI',rfl,by have:=HW.out;exact bel⟩
    case measure=>exact HMS.out
  ·have e:i=n:=by have:=Hi.out;omega
   have HR:Hid ((-1:Int)=v):=by show (-1:Int)=v;rw [HV.out,if_neg (by have:=Hi.out;omega)]
   have T0:decide ((i:Int)<(n:Int))=false:=by simp<;> omega
   have T0':decide (i<n)=false:=dF hlt
   clear e hlt
   go_wp2_with fail
   go_ret
   exact ⟨zE1 HR.out,HW.out⟩
set_option maxRecDepth 100000 in
theorem n_node (NA LA:Option Addr) (nn nc ln lc:Nat) (D:Nds) (s:ByteArray) (w:World) (h2:nn≤2000) (ht:NdIn w NA nn D):
 Calls Tryz.prog 66 #[.agg #[.slice NA nn nc,.slice LA ln lc],.string s] w fun e w'=>e= .returned (.int .i64 (fnd D.Nm nn s))∧Below w.heap.size w w':=by
 have HT:=LH ht
 have SF:=LH fun g w hT hy hg=>find_node NA nn nc D s g w h2 hT hy hg
 generalize fnd D.Nm nn s=v at SF⊢
 clear ht
 go_enter Tryz.func66,Tryz.ntmps66
 go_wp2_with (first
  |(go_at_call 95
    with_reducible refine (SF.out _ _ ?_ ?_ ?_).mono ?_
    focus (exact HT.out.below (nl _) (((bR _ w).alloc (nl _) _).alloc (by simp) _))
    focus (simp)
    focus (simp)
    rintro e w3 ⟨rfl,hb3⟩
    have H3:Hid (Below w.heap.size w w3):=(((bR _ w).alloc (nl _) _).alloc (by simp) _).trans (hb3.mono (by simp;omega))
    clear hb3))
 go_ret
 exact ⟨rfl,H3.out⟩
set_option maxRecDepth 100000 in
set_option maxHeartbeats 2000000 in
theorem r_node (NA LA:Option Addr) (nn nc ln lc:Nat) (D:Nds) (s:ByteArray) (w:World) (h2:nn≤2000) (ht:NdIn w NA nn D):
 Calls Tryz.prog 25 #[.agg #[.slice NA nn nc,.slice LA ln lc],.string s] w fun e w'=>e= .returned (.int .i64 (fnd D.Nm nn s))∧Below w.heap.size w w':=by
 obtain ⟨k,hk,hv⟩:=zJ1 D.Nm nn s
 generalize fnd D.Nm nn s=v at hv⊢
 have HT:=LH ht
 have HK:=LH hk
 have H2:=LH h2
 have HV:=LH hv
 have HB0:Hid (Blk (w.alloc (Obj.cells #[.slice NA nn nc,.slice LA ln lc] 25)) w.heap.size 25 #[.slice NA nn nc,.slice LA ln lc]):=Blk.new _ _ _
 have HW0:Hid (Below w.heap.size w (w.alloc (Obj.cells #[.slice NA nn nc,.slice LA ln lc] 25))):=(bR _ w).alloc (nl _) _
 clear ht hk h2 hv
 go_enter Tryz.func25,Tryz.ntmps25
 go_wp2_with fail
 generalize w.alloc (Obj.cells #[.slice NA nn nc,.slice LA ln lc] 25)=w1 at HB0 HW0⊢
 generalize hgw:w.heap.size=gw at HB0⊢
 go_loopw [5] (fun u wr=>∃i:Nat,Hid (i≤nn∧i≤k)∧u= .int .i64 i∧Hid (Below w1.heap.size w1 wr)) (fun u _=>nn - (RowKit.intOf u).toNat)
 case atStart=>exact ⟨0,⟨Nat.zero_le _,Nat.zero_le _⟩,rfl,bR _ _⟩
 case round=>
  obtain ⟨i,Hi,rfl,HW⟩:=hrel
  have HBr:=LH (HB0.out.call HW.out)
  have d0:=HBr.out.cell 0
  have d1:=HBr.out.cell 1
  simp only [List.getElem?_toArray,List.getElem?_cons_zero,List.getElem?_cons_succ] at d0 d1
  have HWW:Hid (Below w.heap.size w wr):=HW0.out.trans (HW.out.mono HW0.out.size)
  by_cases hlt:i<nn
  ·have T0:decide ((i:Int)<(nn:Int))=true:=by simp<;> omega
   have T0':decide (i<nn)=true:=dT hlt
   obtain ⟨i',hi'⟩:∃z,z=i+1:=⟨_,rfl⟩
   have x0:IntKind.i64.wrap ((i:Int)+1)=(i':Int):=by have:=H2.out;rw [IntKind.wrap_i64];omega
   obtain ⟨b,off,rfl,hb,hC,_⟩:=(HT.out.below (nl _) HWW.out).at hlt
   have c0:=hC 0 _ rfl
   have k0:(0:Int)≤(i:Int):=by omega
   have k1:(i:Int)<(nn:Int):=by omega
   have HMS:Hid (nn - (RowKit.intOf (Value.int .i64 (i':Int))).toNat<nn - (RowKit.intOf (Value.int .i64 (i:Int))).toNat):=by show _<_;simp [RowKit.intOf];omega
   simp only [Nat.add_zero] at c0
   rcases zI1 HK.out hlt Hi.out.2 with ⟨hp,hik⟩|⟨hp,hik⟩
   ·have HR:Hid ((i:Int)=v):=by show (i:Int)=v;rw [HV.out,hik,if_pos (by omega)]
    have e:D.Nm i=s:=of_decide_eq_true hp
    rw [e] at c0
    clear hi' hp hik hC e
    go_wp2_with fail
    go_ret
    exact ⟨zE1 HR.out,HWW.out⟩
   ·have HI':Hid (i'≤nn∧i'≤k):=by show _∧_;omega
    have e:D.Nm i≠s:=of_decide_eq_false hp
    have u1:¬(D.Nm i).toList=s.toList:=fun h=>e (zC1 h)
    have u2:((D.Nm i).toList==s.toList)=false:=by simp [u1]
    clear hi' hp hik hC e
    go_wp2_with fail
    go_roundw
    case rel=>exact ⟨i',HI',rfl,HW⟩
    case measure=>exact HMS.out
  ·have e:i=nn:=by have:=Hi.out;omega
   have HR:Hid ((-1:Int)=v):=by show (-1:Int)=v;rw [HV.out,if_neg (by have:=Hi.out;omega)]
   have T0:decide ((i:Int)<(nn:Int))=false:=by simp<;> omega
   have T0':decide (i<nn)=false:=dF hlt
   clear e hlt
   go_wp2_with fail
   go_ret
   exact ⟨zE1 HR.out,HWW.out⟩
set_option maxRecDepth 100000 in
theorem p_link (nm s fr tn:ByteArray) (kd ln up dn:Int) (sc:ByteArray) (wd ht:Int) (A:Option Addr) (n c:Nat) (g:Nat) (f:Bool) (hf:f=decide (nm=s)) (w:World) (hy:w.cell? ⟨g,0,none⟩=some (.string s)) (hg:g<w.heap.size):
 Calls Tryz.prog 106 #[.agg #[.string nm,.string fr,.string tn,.int .i64 kd,.int .i64 ln,.int .i64 up,.int .i64 dn,.string sc,.int .i64 wd,.int .i64 ht,.slice A n c],.pointer (some ⟨g,0,none⟩)] w fun e w'=>e= .returned (.bool f)∧Below w.heap.size w w':=by
 by_cases h:nm=s
 ·subst h
  obtain rfl:f=true:=by rw [hf];simp
  clear hf
  go_enter Tryz.func106,Tryz.ntmps106
  go_wp2_with fail
  go_ret
  exact ⟨by first |rfl |(simp;done),bel⟩
 ·have t1:¬nm.toList=s.toList:=fun e=>h (zC1 e)
  have t2:(nm.toList==s.toList)=false:=by simp [t1]
  obtain rfl:f=false:=by rw [hf];exact dF h
  clear hf h
  go_enter Tryz.func106,Tryz.ntmps106
  go_wp2_with fail
  go_ret
  exact ⟨by first |rfl |(simp;done),bel⟩
set_option maxRecDepth 100000 in
set_option maxHeartbeats 2000000 in
theorem find_link (A:Option Addr) (n c:Nat) (D:Lks) (s:ByteArray) (g:Nat) (w:World) (h2:n≤2000) (ht:LkIn w A n D) (hy:w.cell? ⟨g,0,none⟩=some (.string s)) (hg:g<w.heap.size):
 Calls Tryz.prog 96 #[.slice A n c,.func (.func 106) #[] #[.pointer (some ⟨g,0,none⟩)]] w fun e w'=>e= .returned (.int .i64 (fnd D.Nm n s))∧Below w.heap.size w w':=by
 obtain ⟨k,hk,hv⟩:=zJ1 D.Nm n s
 generalize fnd D.Nm n s=v at hv⊢
 have HT:=LH ht
 have HK:=LH hk
 have H2:=LH h2
 have HV:=LH hv
 have HY:=LH hy
 clear hy ht hk h2 hv
 go_enter Tryz.func96,Tryz.ntmps96
 go_wp2_with fail
 go_loopw [8] (fun u wr=>∃i:Nat,Hid (i≤n∧i≤k)∧u= .int .i64 i∧Hid (Below w.heap.size w wr)) (fun u _=>n - (RowKit.intOf u).toNat)
 case atStart=>exact ⟨0,⟨Nat.zero_le _,Nat.zero_le _⟩,rfl,bR _ _⟩
 case round=>
  obtain ⟨i,Hi,rfl,HW⟩:=hrel
  by_cases hlt:i<n
  ·have T0:decide ((i:Int)<(n:Int))=true:=by simp<;> omega
   have T0':decide (i<n)=true:=dT hlt
   obtain ⟨i',hi'⟩:∃z,z=i+1:=⟨_,rfl⟩
   have x0:IntKind.i64.wrap ((i:Int)+1)=(i':Int):=by have:=H2.out;rw [IntKind.wrap_i64];omega
   obtain ⟨b,off,rfl,hb,hC,_⟩:=(HT.out.below (nl _) HW.out).at hlt
   have c0:=hC 0 _ rfl
   have c1:=hC 1 _ rfl
   have c2:=hC 2 _ rfl
   have c3:=hC 3 _ rfl
   have c4:=hC 4 _ rfl
   have c5:=hC 5 _ rfl
   have c6:=hC 6 _ rfl
   have c7:=hC 7 _ rfl
   have c8:=hC 8 _ rfl
   have c9:=hC 9 _ rfl
   have c10:=hC 10 _ rfl
   have k0:(0:Int)≤(i:Int):=by omega
   have k1:(i:Int)<(n:Int):=by omega
   have hyr:wr.cell? ⟨g,0,none⟩=some (.string s):=(HW.out.cell (p:=⟨g,0,none⟩) hg).trans HY.out
   have hgr:g<wr.heap.size:=Nat.lt_of_lt_of_le hg HW.out.size
   have HMS:Hid (n - (RowKit.intOf (Value.int .i64 (i':Int))).toNat<n - (RowKit.intOf (Value.int .i64 (i:Int))).toNat):=by show _<_;simp [RowKit.intOf];omega
   rcases zI1 HK.out hlt Hi.out.2 with ⟨hp,hik⟩|⟨hp,hik⟩
   ·have KK:=LH (p_link (D.Nm i) s (D.Fr i) (D.To i) (D.Kd i) (D.Ln i) (D.Up i) (D.Dn i) (D.Sc i) (D.Wd i) (D.Ht i) (D.CA i) (D.CN i) (D.CC i) g true hp.symm wr hyr hgr)
    have HR:Hid ((i:Int)=v):=by show (i:Int)=v;rw [HV.out,hik,if_pos (by omega)]
    simp only [Nat.add_zero] at c0
    clear hi' hp hik hC hyr hgr
    go_wp2_with (first |(go_at_call 106;(with_reducible refine (KK.out).mono ?_);rintro e w1 ⟨rfl,hb1⟩;obtain ⟨hc1,hf1⟩:=zA4 hb1;have hz1:=hb1.size;(try simp at hz1);(try simp only [heap_drew,World.heap_drewN] at hz1 hc1 hf1);(try have y0:w.heap.size<w1.heap.size:=by omega)))
    go_ret
    refine ⟨zE1 HR.out,?_⟩
    have:=HW.out
    exact bel
   ·have KK:=LH (p_link (D.Nm i) s (D.Fr i) (D.To i) (D.Kd i) (D.Ln i) (D.Up i) (D.Dn i) (D.Sc i) (D.Wd i) (D.Ht i) (D.CA i) (D.CN i) (D.CC i) g false hp.symm wr hyr hgr)
    have HI':Hid (i'≤n∧i'≤k):=by show _∧_;omega
    simp only [Nat.add_zero] at c0
    clear hi' hp hik hC hyr hgr
    go_wp2_with (first |(go_at_call 106;(with_reducible refine (KK.out).mono ?_);rintro e w1 ⟨rfl,hb1⟩;obtain ⟨hc1,hf1⟩:=zA4 hb1;have hz1:=hb1.size;(try simp at hz1);(try simp only [heap_drew,World.heap_drewN] at hz1 hc1 hf1);(try have y0:w.heap.size<w1.heap.size:=by omega)))
    go_roundw
    case rel=>exact ⟨i',HI',rfl,by have:=HW.out;exact bel⟩
    case measure=>exact HMS.out
  ·have e:i=n:=by have:=Hi.out;omega
   have HR:Hid ((-1:Int)=v):=by show (-1:Int)=v;rw [HV.out,if_neg (by have:=Hi.out;omega)]
   have T0:decide ((i:Int)<(n:Int))=false:=by simp<;> omega
   have T0':decide (i<n)=false:=dF hlt
   clear e hlt
   go_wp2_with fail
   go_ret
   exact ⟨zE1 HR.out,HW.out⟩
set_option maxRecDepth 100000 in
theorem n_link (NA LA:Option Addr) (nn nc ln lc:Nat) (D:Lks) (s:ByteArray) (w:World) (h2:ln≤2000) (ht:LkIn w LA ln D):
 Calls Tryz.prog 67 #[.agg #[.slice NA nn nc,.slice LA ln lc],.string s] w fun e w'=>e= .returned (.int .i64 (fnd D.Nm ln s))∧Below w.heap.size w w':=by
 have HT:=LH ht
 have SF:=LH fun g w hT hy hg=>find_link LA ln lc D s g w h2 hT hy hg
 generalize fnd D.Nm ln s=v at SF⊢
 clear ht
 go_enter Tryz.func67,Tryz.ntmps67
 go_wp2_with (first
  |(go_at_call 96
    with_reducible refine (SF.out _ _ ?_ ?_ ?_).mono ?_
    focus (exact HT.out.below (nl _) (((bR _ w).alloc (nl _) _).alloc (by simp) _))
    focus (simp)
    focus (simp)
    rintro e w3 ⟨rfl,hb3⟩
    have H3:Hid (Below w.heap.size w w3):=(((bR _ w).alloc (nl _) _).alloc (by simp) _).trans (hb3.mono (by simp;omega))
    clear hb3))
 go_ret
 exact ⟨rfl,H3.out⟩
set_option maxRecDepth 100000 in
set_option maxHeartbeats 2000000 in
theorem r_link (NA LA:Option Addr) (nn nc ln lc:Nat) (D:Lks) (s:ByteArray) (w:World) (h2:ln≤2000) (ht:LkIn w LA ln D):
 Calls Tryz.prog 35 #[.agg #[.slice NA nn nc,.slice LA ln lc],.string s] w fun e w'=>e= .returned (.int .i64 (fnd D.Nm ln s))∧Below w.heap.size w w':=by
 obtain ⟨k,hk,hv⟩:=zJ1 D.Nm ln s
 generalize fnd D.Nm ln s=v at hv⊢
 have HT:=LH ht
 have HK:=LH hk
 have H2:=LH h2
 have HV:=LH hv
 have HB0:Hid (Blk (w.alloc (Obj.cells #[.slice NA nn nc,.slice LA ln lc] 25)) w.heap.size 25 #[.slice NA nn nc,.slice LA ln lc]):=Blk.new _ _ _
 have HW0:Hid (Below w.heap.size w (w.alloc (Obj.cells #[.slice NA nn nc,.slice LA ln lc] 25))):=(bR _ w).alloc (nl _) _
 clear ht hk h2 hv
 go_enter Tryz.func35,Tryz.ntmps35
 go_wp2_with fail
 generalize w.alloc (Obj.cells #[.slice NA nn nc,.slice LA ln lc] 25)=w1 at HB0 HW0⊢
 generalize hgw:w.heap.size=gw at HB0⊢
 go_loopw [5] (fun u wr=>∃i:Nat,Hid (i≤ln∧i≤k)∧u= .int .i64 i∧Hid (Below w1.heap.size w1 wr)) (fun u _=>ln - (RowKit.intOf u).toNat)
 case atStart=>exact ⟨0,⟨Nat.zero_le _,Nat.zero_le _⟩,rfl,bR _ _⟩
 case round=>
  obtain ⟨i,Hi,rfl,HW⟩:=hrel
  have HBr:=LH (HB0.out.call HW.out)
  have d0:=HBr.out.cell 0
  have d1:=HBr.out.cell 1
  simp only [List.getElem?_toArray,List.getElem?_cons_zero,List.getElem?_cons_succ] at d0 d1
  have HWW:Hid (Below w.heap.size w wr):=HW0.out.trans (HW.out.mono HW0.out.size)
  by_cases hlt:i<ln
  ·have T0:decide ((i:Int)<(ln:Int))=true:=by simp<;> omega
   have T0':decide (i<ln)=true:=dT hlt
   obtain ⟨i',hi'⟩:∃z,z=i+1:=⟨_,rfl⟩
   have x0:IntKind.i64.wrap ((i:Int)+1)=(i':Int):=by have:=H2.out;rw [IntKind.wrap_i64];omega
   obtain ⟨b,off,rfl,hb,hC,_⟩:=(HT.out.below (nl _) HWW.out).at hlt
   have c0:=hC 0 _ rfl
   have k0:(0:Int)≤(i:Int):=by omega
   have k1:(i:Int)<(ln:Int):=by omega
   have HMS:Hid (ln - (RowKit.intOf (Value.int .i64 (i':Int))).toNat<ln - (RowKit.intOf (Value.int .i64 (i:Int))).toNat):=by show _<_;simp [RowKit.intOf];omega
   simp only [Nat.add_zero] at c0
   rcases zI1 HK.out hlt Hi.out.2 with ⟨hp,hik⟩|⟨hp,hik⟩
   ·have HR:Hid ((i:Int)=v):=by show (i:Int)=v;rw [HV.out,hik,if_pos (by omega)]
    have e:D.Nm i=s:=of_decide_eq_true hp
    rw [e] at c0
    clear hi' hp hik hC e
    go_wp2_with fail
    go_ret
    exact ⟨zE1 HR.out,HWW.out⟩
   ·have HI':Hid (i'≤ln∧i'≤k):=by show _∧_;omega
    have e:D.Nm i≠s:=of_decide_eq_false hp
    have u1:¬(D.Nm i).toList=s.toList:=fun h=>e (zC1 h)
    have u2:((D.Nm i).toList==s.toList)=false:=by simp [u1]
    clear hi' hp hik hC e
    go_wp2_with fail
    go_roundw
    case rel=>exact ⟨i',HI',rfl,HW⟩
    case measure=>exact HMS.out
  ·have e:i=ln:=by have:=Hi.out;omega
   have HR:Hid ((-1:Int)=v):=by show (-1:Int)=v;rw [HV.out,if_neg (by have:=Hi.out;omega)]
   have T0:decide ((i:Int)<(ln:Int))=false:=by simp<;> omega
   have T0':decide (i<ln)=false:=dF hlt
   clear e hlt
   go_wp2_with fail
   go_ret
   exact ⟨zE1 HR.out,HWW.out⟩
set_option maxRecDepth 100000 in
theorem p_lnode (nm:ByteArray) (kd ax ay iv gd:Int) (A:Option Addr) (n c:Nat) (pt:Bool) (rs:Int) (f:Bool) (hf:f=decide (110<n∨100<nm.size)) (w:World):Calls Tryz.prog 53 #[.agg #[.string nm,.int .i64 kd,.int .i64 ax,.int .i64 ay,.int .i64 iv,.int .i64 gd,.slice A n c,.bool pt,.int .i64 rs]] w fun e w'=>e= .returned (.bool f)∧Below w.heap.size w w':=by
 subst hf
 by_cases h0:110<n
 case pos=>
  have t0_0:decide ((110:Int)<(n:Int))=true:=dT (by omega)
  have t0_1:decide (110<n)=true:=dT (by omega)
  rw [dT (Or.inl h0)]
  clear h0
  go_enter Tryz.func53,Tryz.ntmps53
  go_wp2_with fail
  go_ret
  exact ⟨rfl,bel⟩
 have t0_0:decide ((110:Int)<(n:Int))=false:=dF (by omega)
 have t0_1:decide (110<n)=false:=dF (by omega)
 by_cases h1:100<nm.size
 case pos=>
  have t1_0:decide ((100:Int)<(nm.size:Int))=true:=dT (by omega)
  have t1_1:decide (100<nm.size)=true:=dT (by omega)
  rw [dT (Or.inr (h1))]
  clear h0 h1
  go_enter Tryz.func53,Tryz.ntmps53
  go_wp2_with fail
  go_ret
  exact ⟨rfl,bel⟩
 have t1_0:decide ((100:Int)<(nm.size:Int))=false:=dF (by omega)
 have t1_1:decide (100<nm.size)=false:=dF (by omega)
 rw [dF (show¬(110<n∨100<nm.size) by omega)]
 clear h0 h1
 go_enter Tryz.func53,Tryz.ntmps53
 go_wp2_with fail
 go_ret
 exact ⟨rfl,bel⟩
set_option maxRecDepth 100000 in
set_option maxHeartbeats 2000000 in
theorem find_lnode (A:Option Addr) (n c k:Nat) (D:Nds) (w:World) (h2:n≤2000) (ht:NdIn w A n D) (hk:FirstAt (fun j=>decide (110<D.SN j∨100<(D.Nm j).size)) n k) (v:Int) (hv:v=if k<n then (k:Int) else -1):
 Calls Tryz.prog 95 #[.slice A n c,.func (.func 53) #[] #[]] w fun e w'=>e= .returned (.int .i64 v)∧Below w.heap.size w w':=by
 have HT:=LH ht
 have HK:=LH hk
 have H2:=LH h2
 have HV:=LH hv
 clear ht hk h2 hv
 go_enter Tryz.func95,Tryz.ntmps95
 go_wp2_with fail
 go_loopw [8] (fun u wr=>∃i:Nat,Hid (i≤n∧i≤k)∧u= .int .i64 i∧Hid (Below w.heap.size w wr)) (fun u _=>n - (RowKit.intOf u).toNat)
 case atStart=>exact ⟨0,⟨Nat.zero_le _,Nat.zero_le _⟩,rfl,bR _ _⟩
 case round=>
  obtain ⟨i,Hi,rfl,HW⟩:=hrel
  by_cases hlt:i<n
  ·have T0:decide ((i:Int)<(n:Int))=true:=by simp<;> omega
   have T0':decide (i<n)=true:=dT hlt
   obtain ⟨i',hi'⟩:∃z,z=i+1:=⟨_,rfl⟩
   have x0:IntKind.i64.wrap ((i:Int)+1)=(i':Int):=by have:=H2.out;rw [IntKind.wrap_i64];omega
   obtain ⟨b,off,rfl,hb,hC,_⟩:=(HT.out.below (nl _) HW.out).at hlt
   have c0:=hC 0 _ rfl
   have c1:=hC 1 _ rfl
   have c2:=hC 2 _ rfl
   have c3:=hC 3 _ rfl
   have c4:=hC 4 _ rfl
   have c5:=hC 5 _ rfl
   have c6:=hC 6 _ rfl
   have c7:=hC 7 _ rfl
   have c8:=hC 8 _ rfl
   simp only [Nat.add_zero] at c0
   clear hC
   have k0:(0:Int)≤(i:Int):=by omega
   have k1:(i:Int)<(n:Int):=by omega
   have HMS:Hid (n - (RowKit.intOf (Value.int .i64 (i':Int))).toNat<n - (RowKit.intOf (Value.int .i64 (i:Int))).toNat):=by show _<_;simp [RowKit.intOf];omega
   rcases zI1 HK.out hlt Hi.out.2 with ⟨hp,hik⟩|⟨hp,hik⟩
   ·have KK:=LH fun w=>(p_lnode (D.Nm i) (D.Kd i) (D.Ax i) (D.Ay i) (D.Iv i) (D.Gd i) (D.SA i) (D.SN i) (D.SC i) (D.Pt i) (D.Rs i) true hp.symm w)
    have HR:Hid ((i:Int)=v):=by show (i:Int)=v;rw [HV.out,hik,if_pos (by omega)]
    clear hi' hp hik
    go_wp2_with (first |(go_at_call 53;(with_reducible refine (KK.out _).mono ?_);rintro e w1 ⟨rfl,hb1⟩;obtain ⟨hc1,hf1⟩:=zA4 hb1;have hz1:=hb1.size;(try simp at hz1);(try simp only [heap_drew,World.heap_drewN] at hz1 hc1 hf1);(try have y0:w.heap.size<w1.heap.size:=by omega)))
    go_ret
    refine ⟨zE1 HR.out,?_⟩
    have:=HW.out
    exact bel
   ·have KK:=LH fun w=>(p_lnode (D.Nm i) (D.Kd i) (D.Ax i) (D.Ay i) (D.Iv i) (D.Gd i) (D.SA i) (D.SN i) (D.SC i) (D.Pt i) (D.Rs i) false hp.symm w)
    have HI':Hid (i'≤n∧i'≤k):=by show _∧_;omega
    clear hi' hp hik
    go_wp2_with (first |(go_at_call 53;(with_reducible refine (KK.out _).mono ?_);rintro e w1 ⟨rfl,hb1⟩;obtain ⟨hc1,hf1⟩:=zA4 hb1;have hz1:=hb1.size;(try simp at hz1);(try simp only [heap_drew,World.heap_drewN] at hz1 hc1 hf1);(try have y0:w.heap.size<w1.heap.size:=by omega)))
    go_roundw
    case rel=>exact ⟨i',HI',rfl,by have:=HW.out;exact bel⟩
    case measure=>exact HMS.out
  ·have e:i=n:=by have:=Hi.out;omega
   have HR:Hid ((-1:Int)=v):=by show (-1:Int)=v;rw [HV.out,if_neg (by have:=Hi.out;omega)]
   have T0:decide ((i:Int)<(n:Int))=false:=by simp<;> omega
   have T0':decide (i<n)=false:=dF hlt
   clear e hlt
   go_wp2_with fail
   go_ret
   exact ⟨zE1 HR.out,HW.out⟩
theorem has_lnode (A:Option Addr) (n c:Nat) (D:Nds) (w:World) (h2:n≤2000) (ht:NdIn w A n D) (f:Bool) (hf:f=true↔∃j,j<n∧(fun j=>decide (110<D.SN j∨100<(D.Nm j).size)) j=true):
 Calls Tryz.prog 52 #[.slice A n c,.func (.func 53) #[] #[]] w fun e w'=>e= .returned (.bool f)∧Below w.heap.size w w':=by
 obtain ⟨k,hk⟩:=first_ex (fun j=>decide (110<D.SN j∨100<(D.Nm j).size)) n
 have hany:=first_any hk
 have S:=LH (find_lnode A n c k D w h2 ht hk _ rfl)
 by_cases hkn:k<n
 ·have hft:f=true:=hf.2 (hany.1 hkn)
  rw [if_pos hkn] at S
  have t:decide ((0:Int)≤(k:Int))=true:=dT (by omega)
  subst hft
  clear hk hany hkn hf ht h2
  go_enter Tryz.func52,Tryz.ntmps52
  go_wp2_with (first |(go_at_call 95;(with_reducible refine (S.out).mono ?_);rintro e w1 ⟨rfl,hb1⟩;obtain ⟨hc1,hf1⟩:=zA4 hb1;have hz1:=hb1.size;(try simp at hz1);(try simp only [heap_drew,World.heap_drewN] at hz1 hc1 hf1);(try have y0:w.heap.size<w1.heap.size:=by omega)))
  go_ret
  refine ⟨rfl,?_⟩
  exact bel
 ·have hft:f=false:=by
   cases f with
   |false=>rfl
   |true=>exact absurd (hany.2 (hf.1 rfl)) hkn
  rw [if_neg hkn] at S
  subst hft
  clear hk hany hkn hf ht h2
  go_enter Tryz.func52,Tryz.ntmps52
  go_wp2_with (first |(go_at_call 95;(with_reducible refine (S.out).mono ?_);rintro e w1 ⟨rfl,hb1⟩;obtain ⟨hc1,hf1⟩:=zA4 hb1;have hz1:=hb1.size;(try simp at hz1);(try simp only [heap_drew,World.heap_drewN] at hz1 hc1 hf1);(try have y0:w.heap.size<w1.heap.size:=by omega)))
  go_ret
  refine ⟨rfl,?_⟩
  exact bel
set_option maxRecDepth 100000 in
theorem p_llink (nm fr tn:ByteArray) (kd ln up dn:Int) (sc:ByteArray) (wd ht:Int) (A:Option Addr) (n c:Nat) (f:Bool) (hf:f=decide (110<n∨100<nm.size∨100<fr.size∨100<tn.size∨100<sc.size)) (w:World):Calls Tryz.prog 55 #[.agg #[.string nm,.string fr,.string tn,.int .i64 kd,.int .i64 ln,.int .i64 up,.int .i64 dn,.string sc,.int .i64 wd,.int .i64 ht,.slice A n c]] w fun e w'=>e= .returned (.bool f)∧Below w.heap.size w w':=by
 subst hf
 by_cases h0:110<n
 case pos=>
  have t0_0:decide ((110:Int)<(n:Int))=true:=dT (by omega)
  have t0_1:decide (110<n)=true:=dT (by omega)
  rw [dT (Or.inl h0)]
  clear h0
  go_enter Tryz.func55,Tryz.ntmps55
  go_wp2_with fail
  go_ret
  exact ⟨rfl,bel⟩
 have t0_0:decide ((110:Int)<(n:Int))=false:=dF (by omega)
 have t0_1:decide (110<n)=false:=dF (by omega)
 by_cases h1:100<nm.size
 case pos=>
  have t1_0:decide ((100:Int)<(nm.size:Int))=true:=dT (by omega)
  have t1_1:decide (100<nm.size)=true:=dT (by omega)
  rw [dT (Or.inr (Or.inl h1))]
  clear h0 h1
  go_enter Tryz.func55,Tryz.ntmps55
  go_wp2_with fail
  go_ret
  exact ⟨rfl,bel⟩
 have t1_0:decide ((100:Int)<(nm.size:Int))=false:=dF (by omega)
 have t1_1:decide (100<nm.size)=false:=dF (by omega)
 by_cases h2:100<fr.size
 case pos=>
  have t2_0:decide ((100:Int)<(fr.size:Int))=true:=dT (by omega)
  have t2_1:decide (100<fr.size)=true:=dT (by omega)
  rw [dT (Or.inr (Or.inr (Or.inl h2)))]
  clear h0 h1 h2
  go_enter Tryz.func55,Tryz.ntmps55
  go_wp2_with fail
  go_ret
  exact ⟨rfl,bel⟩
 have t2_0:decide ((100:Int)<(fr.size:Int))=false:=dF (by omega)
 have t2_1:decide (100<fr.size)=false:=dF (by omega)
 by_cases h3:100<tn.size
 case pos=>
  have t3_0:decide ((100:Int)<(tn.size:Int))=true:=dT (by omega)
  have t3_1:decide (100<tn.size)=true:=dT (by omega)
  rw [dT (Or.inr (Or.inr (Or.inr (Or.inl h3))))]
  clear h0 h1 h2 h3
  go_enter Tryz.func55,Tryz.ntmps55
  go_wp2_with fail
  go_ret
  exact ⟨rfl,bel⟩
 have t3_0:decide ((100:Int)<(tn.size:Int))=false:=dF (by omega)
 have t3_1:decide (100<tn.size)=false:=dF (by omega)
 by_cases h4:100<sc.size
 case pos=>
  have t4_0:decide ((100:Int)<(sc.size:Int))=true:=dT (by omega)
  have t4_1:decide (100<sc.size)=true:=dT (by omega)
  rw [dT (Or.inr (Or.inr (Or.inr (Or.inr (h4)))))]
  clear h0 h1 h2 h3 h4
  go_enter Tryz.func55,Tryz.ntmps55
  go_wp2_with fail
  go_ret
  exact ⟨rfl,bel⟩
 have t4_0:decide ((100:Int)<(sc.size:Int))=false:=dF (by omega)
 have t4_1:decide (100<sc.size)=false:=dF (by omega)
 rw [dF (show¬(110<n∨100<nm.size∨100<fr.size∨100<tn.size∨100<sc.size) by omega)]
 clear h0 h1 h2 h3 h4
 go_enter Tryz.func55,Tryz.ntmps55
 go_wp2_with fail
 go_ret
 exact ⟨rfl,bel⟩
set_option maxRecDepth 100000 in
set_option maxHeartbeats 2000000 in
theorem find_llink (A:Option Addr) (n c k:Nat) (K:Lks) (w:World) (h2:n≤2000) (ht:LkIn w A n K) (hk:FirstAt (fun j=>decide (110<K.CN j∨100<(K.Nm j).size∨100<(K.Fr j).size∨100<(K.To j).size∨100<(K.Sc j).size)) n k) (v:Int) (hv:v=if k<n then (k:Int) else -1):
 Calls Tryz.prog 96 #[.slice A n c,.func (.func 55) #[] #[]] w fun e w'=>e= .returned (.int .i64 v)∧Below w.heap.size w w':=by
 have HT:=LH ht
 have HK:=LH hk
 have H2:=LH h2
 have HV:=LH hv
 clear ht hk h2 hv
 go_enter Tryz.func96,Tryz.ntmps96
 go_wp2_with fail
 go_loopw [8] (fun u wr=>∃i:Nat,Hid (i≤n∧i≤k)∧u= .int .i64 i∧Hid (Below w.heap.size w wr)) (fun u _=>n - (RowKit.intOf u).toNat)
 case atStart=>exact ⟨0,⟨Nat.zero_le _,Nat.zero_le _⟩,rfl,bR _ _⟩
 case round=>
  obtain ⟨i,Hi,rfl,HW⟩:=hrel
  by_cases hlt:i<n
  ·have T0:decide ((i:Int)<(n:Int))=true:=by simp<;> omega
   have T0':decide (i<n)=true:=dT hlt
   obtain ⟨i',hi'⟩:∃z,z=i+1:=⟨_,rfl⟩
   have x0:IntKind.i64.wrap ((i:Int)+1)=(i':Int):=by have:=H2.out;rw [IntKind.wrap_i64];omega
   obtain ⟨b,off,rfl,hb,hC,_⟩:=(HT.out.below (nl _) HW.out).at hlt
   have c0:=hC 0 _ rfl
   have c1:=hC 1 _ rfl
   have c2:=hC 2 _ rfl
   have c3:=hC 3 _ rfl
   have c4:=hC 4 _ rfl
   have c5:=hC 5 _ rfl
   have c6:=hC 6 _ rfl
   have c7:=hC 7 _ rfl
   have c8:=hC 8 _ rfl
   have c9:=hC 9 _ rfl
   have c10:=hC 10 _ rfl
   simp only [Nat.add_zero] at c0
   clear hC
   have k0:(0:Int)≤(i:Int):=by omega
   have k1:(i:Int)<(n:Int):=by omega
   have HMS:Hid (n - (RowKit.intOf (Value.int .i64 (i':Int))).toNat<n - (RowKit.intOf (Value.int .i64 (i:Int))).toNat):=by show _<_;simp [RowKit.intOf];omega
   rcases zI1 HK.out hlt Hi.out.2 with ⟨hp,hik⟩|⟨hp,hik⟩
   ·have KK:=LH fun w=>(p_llink (K.Nm i) (K.Fr i) (K.To i) (K.Kd i) (K.Ln i) (K.Up i) (K.Dn i) (K.Sc i) (K.Wd i) (K.Ht i) (K.CA i) (K.CN i) (K.CC i) true hp.symm w)
    have HR:Hid ((i:Int)=v):=by show (i:Int)=v;rw [HV.out,hik,if_pos (by omega)]
    clear hi' hp hik
    go_wp2_with (first |(go_at_call 55;(with_reducible refine (KK.out _).mono ?_);rintro e w1 ⟨rfl,hb1⟩;obtain ⟨hc1,hf1⟩:=zA4 hb1;have hz1:=hb1.size;(try simp at hz1);(try simp only [heap_drew,World.heap_drewN] at hz1 hc1 hf1);(try have y0:w.heap.size<w1.heap.size:=by omega)))
    go_ret
    refine ⟨zE1 HR.out,?_⟩
    have:=HW.out
    exact bel
   ·have KK:=LH fun w=>(p_llink (K.Nm i) (K.Fr i) (K.To i) (K.Kd i) (K.Ln i) (K.Up i) (K.Dn i) (K.Sc i) (K.Wd i) (K.Ht i) (K.CA i) (K.CN i) (K.CC i) false hp.symm w)
    have HI':Hid (i'≤n∧i'≤k):=by show _∧_;omega
    clear hi' hp hik
    go_wp2_with (first |(go_at_call 55;(with_reducible refine (KK.out _).mono ?_);rintro e w1 ⟨rfl,hb1⟩;obtain ⟨hc1,hf1⟩:=zA4 hb1;have hz1:=hb1.size;(try simp at hz1);(try simp only [heap_drew,World.heap_drewN] at hz1 hc1 hf1);(try have y0:w.heap.size<w1.heap.size:=by omega)))
    go_roundw
    case rel=>exact ⟨i',HI',rfl,by have:=HW.out;exact bel⟩
    case measure=>exact HMS.out
  ·have e:i=n:=by have:=Hi.out;omega
   have HR:Hid ((-1:Int)=v):=by show (-1:Int)=v;rw [HV.out,if_neg (by have:=Hi.out;omega)]
   have T0:decide ((i:Int)<(n:Int))=false:=by simp<;> omega
   have T0':decide (i<n)=false:=dF hlt
   clear e hlt
   go_wp2_with fail
   go_ret
   exact ⟨zE1 HR.out,HW.out⟩
theorem has_llink (A:Option Addr) (n c:Nat) (K:Lks) (w:World) (h2:n≤2000) (ht:LkIn w A n K) (f:Bool) (hf:f=true↔∃j,j<n∧(fun j=>decide (110<K.CN j∨100<(K.Nm j).size∨100<(K.Fr j).size∨100<(K.To j).size∨100<(K.Sc j).size)) j=true):
 Calls Tryz.prog 54 #[.slice A n c,.func (.func 55) #[] #[]] w fun e w'=>e= .returned (.bool f)∧Below w.heap.size w w':=by
 obtain ⟨k,hk⟩:=first_ex (fun j=>decide (110<K.CN j∨100<(K.Nm j).size∨100<(K.Fr j).size∨100<(K.To j).size∨100<(K.Sc j).size)) n
 have hany:=first_any hk
 have S:=LH (find_llink A n c k K w h2 ht hk _ rfl)
 by_cases hkn:k<n
 ·have hft:f=true:=hf.2 (hany.1 hkn)
  rw [if_pos hkn] at S
  have t:decide ((0:Int)≤(k:Int))=true:=dT (by omega)
  subst hft
  clear hk hany hkn hf ht h2
  go_enter Tryz.func54,Tryz.ntmps54
  go_wp2_with (first |(go_at_call 96;(with_reducible refine (S.out).mono ?_);rintro e w1 ⟨rfl,hb1⟩;obtain ⟨hc1,hf1⟩:=zA4 hb1;have hz1:=hb1.size;(try simp at hz1);(try simp only [heap_drew,World.heap_drewN] at hz1 hc1 hf1);(try have y0:w.heap.size<w1.heap.size:=by omega)))
  go_ret
  refine ⟨rfl,?_⟩
  exact bel
 ·have hft:f=false:=by
   cases f with
   |false=>rfl
   |true=>exact absurd (hany.2 (hf.1 rfl)) hkn
  rw [if_neg hkn] at S
  subst hft
  clear hk hany hkn hf ht h2
  go_enter Tryz.func54,Tryz.ntmps54
  go_wp2_with (first |(go_at_call 96;(with_reducible refine (S.out).mono ?_);rintro e w1 ⟨rfl,hb1⟩;obtain ⟨hc1,hf1⟩:=zA4 hb1;have hz1:=hb1.size;(try simp at hz1);(try simp only [heap_drew,World.heap_drewN] at hz1 hc1 hf1);(try have y0:w.heap.size<w1.heap.size:=by omega)))
  go_ret
  refine ⟨rfl,?_⟩
  exact bel
def ndP (D:Nds) (i:Nat):Prop:=nodeP (D.Nm i) (D.Kd i) (D.Ax i) (D.Ay i) (D.Iv i) (D.Gd i) (D.SN i) (D.SX i) (D.SY i) (D.Pt i) (D.Rs i)
def ndsP (D:Nds) (n i:Nat):Prop:=ndP D i∧fnd D.Nm n (D.Nm i)=(i:Int)
def lkP (K:Lks) (i:Nat):Prop:=linkP (K.Nm i) (K.Fr i) (K.To i) (K.Kd i) (K.Ln i) (K.Up i) (K.Dn i) (K.Sc i) (K.Wd i) (K.Ht i) (K.CN i) (K.CX i) (K.CY i)
def lksP (D:Nds) (n:Nat) (K:Lks) (m i:Nat):Prop:=lkP K i∧fnd K.Nm m (K.Nm i)=(i:Int)∧0≤fnd D.Nm n (K.Fr i)∧0≤fnd D.Nm n (K.To i)∧D.Kd (fnd D.Nm n (K.Fr i)).toNat≠3
def netP (D:Nds) (n:Nat) (K:Lks) (m:Nat):Prop:=n≤300∧m≤400∧(∀i,i<n→ndsP D n i)∧∀i,i<m→lksP D n K m i
structure NetSz (D:Nds) (n:Nat) (K:Lks) (m:Nat):Prop where
 n2:n≤2000
 m2:m≤2000
 nm:∀i,i<n→(D.Nm i).size≤maxLen
 kn:∀i,i<m→(K.Nm i).size≤maxLen
 kf:∀i,i<m→(K.Fr i).size≤maxLen
 kt:∀i,i<m→(K.To i).size≤maxLen
 ks:∀i,i<m→(K.Sc i).size≤maxLen
 kc:∀i,i<m→K.CN i≤2000
def ndA (D:Nds) (i:Nat):Array Value:=#[.string (D.Nm i),.int .i64 (D.Kd i),.int .i64 (D.Ax i),.int .i64 (D.Ay i),.int .i64 (D.Iv i),.int .i64 (D.Gd i),.slice (D.SA i) (D.SN i) (D.SC i),.bool (D.Pt i),.int .i64 (D.Rs i)]
def lkA (K:Lks) (i:Nat):Array Value:=#[.string (K.Nm i),.string (K.Fr i),.string (K.To i),.int .i64 (K.Kd i),.int .i64 (K.Ln i),.int .i64 (K.Up i),.int .i64 (K.Dn i),.string (K.Sc i),.int .i64 (K.Wd i),.int .i64 (K.Ht i),.slice (K.CA i) (K.CN i) (K.CC i)]
theorem blk2 {w:World} {g:Nat} {t:TypeId} {a b:Value} (h:Blk w g t #[a,b]):w.cell? ⟨g,0,none⟩=some a∧w.cell? ⟨g,1,none⟩=some b:=⟨h.cell 0,h.cell 1⟩
theorem blk9 {w:World} {g:Nat} {t:TypeId} {a b c d e f i j k:Value} (h:Blk w g t #[a,b,c,d,e,f,i,j,k]):w.cell? ⟨g,0,none⟩=some a∧w.cell? ⟨g,1,none⟩=some b∧w.cell? ⟨g,2,none⟩=some c∧w.cell? ⟨g,3,none⟩=some d∧w.cell? ⟨g,4,none⟩=some e∧w.cell? ⟨g,5,none⟩=some f∧w.cell? ⟨g,6,none⟩=some i∧w.cell? ⟨g,7,none⟩=some j∧w.cell? ⟨g,8,none⟩=some k:=⟨h.cell 0,h.cell 1,h.cell 2,h.cell 3,h.cell 4,h.cell 5,h.cell 6,h.cell 7,h.cell 8⟩
theorem zA5 {w:World} {g:Nat} {t:TypeId} {a b c d e f i j k l m:Value} (h:Blk w g t #[a,b,c,d,e,f,i,j,k,l,m]):w.cell? ⟨g,0,none⟩=some a∧w.cell? ⟨g,1,none⟩=some b∧w.cell? ⟨g,2,none⟩=some c∧w.cell? ⟨g,3,none⟩=some d∧w.cell? ⟨g,4,none⟩=some e∧w.cell? ⟨g,5,none⟩=some f∧w.cell? ⟨g,6,none⟩=some i∧w.cell? ⟨g,7,none⟩=some j∧w.cell? ⟨g,8,none⟩=some k∧w.cell? ⟨g,9,none⟩=some l∧w.cell? ⟨g,10,none⟩=some m:=⟨h.cell 0,h.cell 1,h.cell 2,h.cell 3,h.cell 4,h.cell 5,h.cell 6,h.cell 7,h.cell 8,h.cell 9,h.cell 10⟩
def lsP (n m:Nat):Prop:=(40<n∧n≤300)∨320<n∨(60<m∧m≤400)∨420<m
def lgP (D:Nds) (n:Nat) (K:Lks) (m:Nat):Prop:=lsP n m∨(∃j,j<n∧(fun j=>decide (110<D.SN j∨100<(D.Nm j).size)) j=true)∨(∃j,j<m∧(fun j=>decide (110<K.CN j∨100<(K.Nm j).size∨100<(K.Fr j).size∨100<(K.To j).size∨100<(K.Sc j).size)) j=true)
theorem lg_not {D:Nds} {n:Nat} {K:Lks} {m:Nat} (h:¬lgP D n K m):(n≤40∨(300<n∧n≤320))∧(m≤60∨(400<m∧m≤420))∧(∀i,i<n→D.SN i≤110∧(D.Nm i).size≤100)∧∀i,i<m→K.CN i≤110∧(K.Nm i).size≤100∧(K.Fr i).size≤100∧(K.To i).size≤100∧(K.Sc i).size≤100:=by
 unfold lgP lsP at h
 have h0:¬((40<n∧n≤300)∨320<n∨(60<m∧m≤400)∨420<m):=fun g=>h (.inl g)
 refine ⟨by omega,by omega,fun i hi=>?_,fun i hi=>?_⟩
 ·have:¬(110<D.SN i∨100<(D.Nm i).size):=fun g=>h (.inr (.inl ⟨i,hi,dT g⟩))
  omega
 ·have:¬(110<K.CN i∨100<(K.Nm i).size∨100<(K.Fr i).size∨100<(K.To i).size∨100<(K.Sc i).size):=fun g=>h (.inr (.inr ⟨i,hi,dT g⟩))
  omega
theorem lg_sz {D:Nds} {n:Nat} {K:Lks} {m:Nat} (h:¬lgP D n K m):NetSz D n K m:=by
 obtain ⟨h1,h2,h3,h4⟩:=lg_not h
 refine ⟨by omega,by omega,fun i hi=>?_,fun i hi=>?_,fun i hi=>?_,fun i hi=>?_,fun i hi=>?_,fun i hi=>?_⟩
 ·have:=h3 i hi;unfold maxLen;omega
 ·have:=h4 i hi;unfold maxLen;omega
 ·have:=h4 i hi;unfold maxLen;omega
 ·have:=h4 i hi;unfold maxLen;omega
 ·have:=h4 i hi;unfold maxLen;omega
 ·have:=h4 i hi;omega
theorem cls (n a b c:Nat) (h1:a≤b) (h2:b≤c):(n≤a)∨(a<n∧n≤b)∨(b<n∧n≤c)∨c<n:=by omega
set_option maxRecDepth 100000 in
set_option maxHeartbeats 4000000 in
theorem tlarge (NA LA:Option Addr) (n nc m lc:Nat) (D:Nds) (K:Lks) (w:World) (hD:NdIn w NA n D) (hK:LkIn w LA m K):
 Calls Tryz.prog 15 #[.agg #[.slice NA n nc,.slice LA m lc]] w fun e w'=>e= .returned (.bool (boolOf (lgP D n K m)))∧Below w.heap.size w w':=by
 have HD:=LH hD
 have HK:=LH hK
 have H0:Hid (Below w.heap.size w (w.alloc (Obj.cells #[.slice NA n nc,.slice LA m lc] 25))):=(bR _ w).alloc (nl _) _
 have HB0:=LH (Blk.new w 25 #[.slice NA n nc,.slice LA m lc])
 clear hD hK
 obtain ⟨F,hF⟩:∃F,Hid (F=boolOf (lgP D n K m)):=⟨_,rfl⟩
 rw [←hF.out]
 go_enter Tryz.func15,Tryz.ntmps15
 go_upto_region 1 with fail
 generalize w.alloc (Obj.cells #[.slice NA n nc,.slice LA m lc] 25)=w0 at H0 HB0⊢
 obtain ⟨y0,y1⟩:=blk2 HB0.out
 obtain ⟨V,hV⟩:∃V,Hid (V=boolOf (lsP n m)):=⟨_,rfl⟩
 go_cut [36] from 3 to 37 (fun z wx=>z= .bool V∧wx=w0)
 case first=>
  by_cases hl:lsP n m
  ·obtain rfl:V=true:=hV.out.trans (zA2 hl)
   unfold lsP at hl
   rcases cls n 40 300 320 (by omega) (by omega) with hn |hn |hn |hn
   all_goals
        rcases cls m 60 400 420 (by omega) (by omega) with hm |hm |hm |hm
        all_goals (try (exfalso;omega))
   all_goals
        have a1:decide ((40:Int)<(n:Int))=decide (40<n):=by simp only [decide_eq_decide];omega
        have a2:decide ((n:Int)≤300)=decide (n≤300):=by simp only [decide_eq_decide];omega
        have a3:decide ((320:Int)<(n:Int))=decide (320<n):=by simp only [decide_eq_decide];omega
        have b1:decide ((60:Int)<(m:Int))=decide (60<m):=by simp only [decide_eq_decide];omega
        have b2:decide ((m:Int)≤400)=decide (m≤400):=by simp only [decide_eq_decide];omega
        have b3:decide ((420:Int)<(m:Int))=decide (420<m):=by simp only [decide_eq_decide];omega
        first |rw [dT (show 40<n by omega)] at a1 |rw [dF (show¬40<n by omega)] at a1
        first |rw [dT (show n≤300 by omega)] at a2 |rw [dF (show¬n≤300 by omega)] at a2
        first |rw [dT (show 320<n by omega)] at a3 |rw [dF (show¬320<n by omega)] at a3
        first |rw [dT (show 60<m by omega)] at b1 |rw [dF (show¬60<m by omega)] at b1
        first |rw [dT (show m≤400 by omega)] at b2 |rw [dF (show¬m≤400 by omega)] at b2
        first |rw [dT (show 420<m by omega)] at b3 |rw [dF (show¬420<m by omega)] at b3
        clear hn hm hl
        go_wp2_with fail
        go_meet
        exact ⟨rfl,rfl⟩
  ·obtain rfl:V=false:=hV.out.trans (zA0 hl)
   unfold lsP at hl
   rcases cls n 40 300 320 (by omega) (by omega) with hn |hn |hn |hn
   all_goals
        rcases cls m 60 400 420 (by omega) (by omega) with hm |hm |hm |hm
        all_goals (try (exfalso;omega))
   all_goals
        have a1:decide ((40:Int)<(n:Int))=decide (40<n):=by simp only [decide_eq_decide];omega
        have a2:decide ((n:Int)≤300)=decide (n≤300):=by simp only [decide_eq_decide];omega
        have a3:decide ((320:Int)<(n:Int))=decide (320<n):=by simp only [decide_eq_decide];omega
        have b1:decide ((60:Int)<(m:Int))=decide (60<m):=by simp only [decide_eq_decide];omega
        have b2:decide ((m:Int)≤400)=decide (m≤400):=by simp only [decide_eq_decide];omega
        have b3:decide ((420:Int)<(m:Int))=decide (420<m):=by simp only [decide_eq_decide];omega
        first |rw [dT (show 40<n by omega)] at a1 |rw [dF (show¬40<n by omega)] at a1
        first |rw [dT (show n≤300 by omega)] at a2 |rw [dF (show¬n≤300 by omega)] at a2
        first |rw [dT (show 320<n by omega)] at a3 |rw [dF (show¬320<n by omega)] at a3
        first |rw [dT (show 60<m by omega)] at b1 |rw [dF (show¬60<m by omega)] at b1
        first |rw [dT (show m≤400 by omega)] at b2 |rw [dF (show¬m≤400 by omega)] at b2
        first |rw [dT (show 420<m by omega)] at b3 |rw [dF (show¬420<m by omega)] at b3
        clear hn hm hl
        go_wp2_with fail
        go_meet
        exact ⟨rfl,rfl⟩
 case rest=>
 obtain ⟨rfl,rfl⟩:=hcut
 by_cases h1:lsP n m
 ·obtain rfl:V=true:=hV.out.trans (zA2 h1)
  obtain rfl:F=true:=hF.out.trans (zA2 (.inl h1))
  clear h1 hV hF
  go_wp2_with fail
  go_ret
  exact ⟨rfl,H0.out⟩
 obtain rfl:V=false:=hV.out.trans (zA0 h1)
 have hsz:n≤2000∧m≤2000:=by unfold lsP at h1;omega
 by_cases h3:∃j,j<n∧(fun j=>decide (110<D.SN j∨100<(D.Nm j).size)) j=true
 ·obtain rfl:F=true:=hF.out.trans (zA2 (.inr (.inl h3)))
  have SN:=LH fun w hD=>has_lnode NA n nc D w hsz.1 hD true ⟨fun _=>h3,fun _=>rfl⟩
  clear h1 h3 hV hsz hF
  go_wp2_with (first
   |(go_at_call 52
     with_reducible refine (SN.out _ ?_).mono ?_
     focus (exact HD.out.below (nl _) H0.out)
     rintro e w1 ⟨rfl,hb1⟩
     have H1:=LH (zA1 H0.out hb1)
     obtain ⟨d0,d1⟩:=blk2 (HB0.out.call hb1)
     clear hb1))
  go_ret
  exact ⟨rfl,H1.out⟩
 have SN:=LH fun w hD=>has_lnode NA n nc D w hsz.1 hD false ⟨fun h=>(by cases h),fun h=>absurd h h3⟩
 have key:∀f:Bool,f=boolOf (lgP D n K m)→(f=true↔∃j,j<m∧(fun j=>decide (110<K.CN j∨100<(K.Nm j).size∨100<(K.Fr j).size∨100<(K.To j).size∨100<(K.Sc j).size)) j=true):=fun f hf=>by
  by_cases h4:∃j,j<m∧(fun j=>decide (110<K.CN j∨100<(K.Nm j).size∨100<(K.Fr j).size∨100<(K.To j).size∨100<(K.Sc j).size)) j=true
  ·rw [hf,zA2 (show lgP D n K m from .inr (.inr h4))];exact ⟨fun _=>h4,fun _=>rfl⟩
  ·rw [hf,zA0 (show¬lgP D n K m from fun h=>h.elim h1 fun h=>h.elim h3 h4)];exact ⟨fun h=>(by cases h),fun h=>absurd h h4⟩
 have SL:=LH fun w hK=>has_llink LA m lc K w hsz.2 hK F (key F hF.out)
 clear h1 h3 hV hsz key hF
 go_wp2_with (first
  |(go_at_call 52
    with_reducible refine (SN.out _ ?_).mono ?_
    focus (exact HD.out.below (nl _) H0.out)
    rintro e w1 ⟨rfl,hb1⟩
    have H1:=LH (zA1 H0.out hb1)
    obtain ⟨d0,d1⟩:=blk2 (HB0.out.call hb1)
    clear hb1)
  |(go_at_call 54
    with_reducible refine (SL.out _ ?_).mono ?_
    focus (exact HK.out.below (nl _) H1.out)
    rintro e w2 ⟨rfl,hb2⟩
    have H2:=LH (zA1 H1.out hb2)
    clear hb2))
 go_ret
 exact ⟨rfl,H2.out⟩
end Go.Proofs.YtghefgifhebniaaGreatDoor

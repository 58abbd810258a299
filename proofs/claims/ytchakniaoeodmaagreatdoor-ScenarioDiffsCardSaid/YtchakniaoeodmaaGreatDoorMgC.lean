/- Merged texts of these proofs: NetF, NetQ. -/
import Derived.Test.YtchakniaoeodmaaGreatDoorMgP
namespace Go.Proofs.YtchakniaoeodmaaGreatDoor
open Go.RowKit
set_option linter.unusedVariables false
set_option linter.unusedSimpArgs false
def FndV (X:Nat→ByteArray) (n:Nat) (s:ByteArray) (v:Int):Prop:=∃k,FirstAt (fun j=>decide (X j=s)) n k∧v=if k<n then (k:Int) else -1
theorem first_uniq {p:Nat→Bool} {n k k':Nat} (h:FirstAt p n k) (h':FirstAt p n k'):k=k':=by
 rcases Nat.lt_trichotomy k k' with g |g |g
 ·have a:=h'.2.1 k g
  have b:=h.2.2 (by have:=h'.1;omega)
  rw [a] at b;cases b
 ·exact g
 ·have a:=h.2.1 k' g
  have b:=h'.2.2 (by have:=h.1;omega)
  rw [a] at b;cases b
theorem FndV.ex (X:Nat→ByteArray) (n:Nat) (s:ByteArray):∃v,FndV X n s v:=by
 obtain ⟨k,hk⟩:=zG8 (fun j=>decide (X j=s)) n
 exact ⟨_,k,hk,rfl⟩
theorem FndV.uniq {X:Nat→ByteArray} {n:Nat} {s:ByteArray} {v v':Int} (h:FndV X n s v) (h':FndV X n s v'):v=v':=by
 obtain ⟨k,hk,e⟩:=h
 obtain ⟨k',hk',e'⟩:=h'
 rw [e,e',first_uniq hk hk']
noncomputable def fnd (X:Nat→ByteArray) (n:Nat) (s:ByteArray):Int:=(FndV.ex X n s).choose
theorem zG7 (X:Nat→ByteArray) (n:Nat) (s:ByteArray):FndV X n s (fnd X n s):=(FndV.ex X n s).choose_spec
theorem fnd_at {X:Nat→ByteArray} {n k:Nat} {s:ByteArray} (h:FirstAt (fun j=>decide (X j=s)) n k):fnd X n s=if k<n then (k:Int) else -1:=(zG7 X n s).uniq ⟨k,h,rfl⟩
theorem fnd_bd (X:Nat→ByteArray) (n:Nat) (s:ByteArray):(fnd X n s= -1)∨∃k:Nat,k<n∧fnd X n s=(k:Int)∧X k=s:=by
 obtain ⟨k,hk,e⟩:=zG7 X n s
 by_cases h:k<n
 ·rw [if_pos h] at e
  exact .inr ⟨k,h,e,of_decide_eq_true (hk.2.2 h)⟩
 ·rw [if_neg h] at e
  exact .inl e
set_option maxRecDepth 100000 in
theorem p_node (nm s:ByteArray) (kd ax ay iv gd:Int) (A:Option Addr) (n c:Nat) (pt:Bool) (rs:Int) (g:Nat) (f:Bool) (hf:f=decide (nm=s)) (w:World) (hy:w.cell? ⟨g,0,none⟩=some (.string s)) (hg:g<w.heap.size):
 Calls Tryz.prog 155 #[.agg #[.string nm,.int .i64 kd,.int .i64 ax,.int .i64 ay,.int .i64 iv,.int .i64 gd,.slice A n c,.bool pt,.int .i64 rs],.pointer (some ⟨g,0,none⟩)] w fun e w'=>e= .returned (.bool f)∧Below w.heap.size w w':=by
 by_cases h:nm=s
 ·subst h
  obtain rfl:f=true:=by rw [hf];simp
  clear hf
  go_enter Tryz.func155,Tryz.ntmps155
  go_wp2_with fail
  go_ret
  exact ⟨by first |rfl |(simp;done),bel⟩
 ·have t1:¬nm.toList=s.toList:=fun e=>h (zC1 e)
  have t2:(nm.toList==s.toList)=false:=by simp [t1]
  obtain rfl:f=false:=by rw [hf];exact dF h
  clear hf h
  go_enter Tryz.func155,Tryz.ntmps155
  go_wp2_with fail
  go_ret
  exact ⟨by first |rfl |(simp;done),bel⟩
set_option maxRecDepth 100000 in
set_option maxHeartbeats 2000000 in
theorem find_node (A:Option Addr) (n c:Nat) (D:Nds) (s:ByteArray) (g:Nat) (w:World) (h2:n≤2000) (ht:NdIn w A n D) (hy:w.cell? ⟨g,0,none⟩=some (.string s)) (hg:g<w.heap.size):
 Calls Tryz.prog 110 #[.slice A n c,.func (.func 155) #[] #[.pointer (some ⟨g,0,none⟩)]] w fun e w'=>e= .returned (.int .i64 (fnd D.Nm n s))∧Below w.heap.size w w':=by
 obtain ⟨k,hk,hv⟩:=zG7 D.Nm n s
 generalize fnd D.Nm n s=v at hv⊢
 have HT:=LH ht
 have HK:=LH hk
 have H2:=LH h2
 have HV:=LH hv
 have HY:=LH hy
 clear hy ht hk h2 hv
 go_enter Tryz.func110,Tryz.ntmps110
 go_wp2_with fail
 go_loopw [8] (fun u wr=>∃i:Nat,Hid (i≤n∧i≤k)∧u= .int .i64 i∧Hid (Below w.heap.size w wr)) (fun u _=>n - (RowKit.intOf u).toNat)
 case atStart=>exact ⟨0,⟨Nat.zero_le _,Nat.zero_le _⟩,rfl,bR _ _⟩
 case round=>
  obtain ⟨i,Hi,rfl,HW⟩:=hrel
  by_cases hlt:i<n
  ·have T0:decide ((i:Int)<(n:Int))=true:=by simp<;> omega
   have T0':decide (i<n)=true:=dU hlt
   obtain ⟨i',hi'⟩:∃z,z=i+1:=⟨_,rfl⟩
   have x0:IntKind.i64.wrap ((i:Int)+1)=(i':Int):=by have:=H2.out;rw [IntKind.wrap_i64];omega
   obtain ⟨b,off,rfl,hb,hC,_⟩:=(HT.out.below (nl _) HW.out).at hlt
   have c0:=hC 0 _ rfl
   have c1:=hC 1 _ rfl
   have c2:=hC 2 _ rfl
   have c3:=hC 3 _ rfl
   have c4:=hC 4 _ rfl
   have c5:=hC 5 _ rfl
   have c6:=hC 6 _ rfl
   have c7:=hC 7 _ rfl
   have c8:=hC 8 _ rfl
   have k0:(0:Int)≤(i:Int):=by omega
   have k1:(i:Int)<(n:Int):=by omega
   have hyr:wr.cell? ⟨g,0,none⟩=some (.string s):=(HW.out.cell (p:=⟨g,0,none⟩) hg).trans HY.out
   have hgr:g<wr.heap.size:=Nat.lt_of_lt_of_le hg HW.out.size
   have HMS:Hid (n - (RowKit.intOf (Value.int .i64 (i':Int))).toNat<n - (RowKit.intOf (Value.int .i64 (i:Int))).toNat):=by show _<_;simp [RowKit.intOf];omega
   rcases zD7 HK.out hlt Hi.out.2 with ⟨hp,hik⟩|⟨hp,hik⟩
   ·have KK:=LH (p_node (D.Nm i) s (D.Kd i) (D.Ax i) (D.Ay i) (D.Iv i) (D.Gd i) (D.SA i) (D.SN i) (D.SC i) (D.Pt i) (D.Rs i) g true hp.symm wr hyr hgr)
    have HR:Hid ((i:Int)=v):=by show (i:Int)=v;rw [HV.out,hik,if_pos (by omega)]
    simp only [Nat.add_zero] at c0
    clear hi' hp hik hC hyr hgr
    go_wp2_with (first |(go_at_call 155;(with_reducible refine (KK.out).mono ?_);rintro e w1 ⟨rfl,hb1⟩;obtain ⟨hc1,hf1⟩:=zA8 hb1;have hz1:=hb1.size;(try simp at hz1);(try simp only [heap_drew,World.heap_drewN] at hz1 hc1 hf1);(try have hs1:=Nat.lt_of_succ_le hz1);(try have hs2:=Nat.lt_of_succ_lt hs1);(try have y0:w.heap.size<w1.heap.size:=by omega);(try have y1:w.heap.size+1<w1.heap.size:=by omega);(try have y2:w.heap.size+2<w1.heap.size:=by omega)))
    go_ret
    refine ⟨zC3 HR.out,?_⟩
    have:=HW.out
    exact bel
   ·have KK:=LH (p_node (D.Nm i) s (D.Kd i) (D.Ax i) (D.Ay i) (D.Iv i) (D.Gd i) (D.SA i) (D.SN i) (D.SC i) (D.Pt i) (D.Rs i) g false hp.symm wr hyr hgr)
    have HI':Hid (i'≤n∧i'≤k):=by show _∧_;omega
    simp only [Nat.add_zero] at c0
    clear hi' hp hik hC hyr hgr
    go_wp2_with (first |(go_at_call 155;(with_reducible refine (KK.out).mono ?_);rintro e w1 ⟨rfl,hb1⟩;obtain ⟨hc1,hf1⟩:=zA8 hb1;have hz1:=hb1.size;(try simp at hz1);(try simp only [heap_drew,World.heap_drewN] at hz1 hc1 hf1);(try have hs1:=Nat.lt_of_succ_le hz1);(try have hs2:=Nat.lt_of_succ_lt hs1);(try have y0:w.heap.size<w1.heap.size:=by omega);(try have y1:w.heap.size+1<w1.heap.size:=by omega);(try have y2:w.heap.size+2<w1.heap.size:=by omega)))
    go_roundw
    case rel=>exact ⟨i',HI',rfl,by have:=HW.out;exact bel⟩
    case measure=>exact HMS.out
  ·have e:i=n:=by have:=Hi.out;omega
   have HR:Hid ((-1:Int)=v):=by show (-1:Int)=v;rw [HV.out,if_neg (by have:=Hi.out;omega)]
   have T0:decide ((i:Int)<(n:Int))=false:=by simp<;> omega
   have T0':decide (i<n)=false:=dF hlt
   clear e hlt
   go_wp2_with fail
   go_ret
   exact ⟨zC3 HR.out,HW.out⟩
set_option maxRecDepth 100000 in
theorem n_node (NA LA:Option Addr) (nn nc ln lc:Nat) (D:Nds) (s:ByteArray) (w:World) (h2:nn≤2000) (ht:NdIn w NA nn D):
 Calls Tryz.prog 113 #[.agg #[.slice NA nn nc,.slice LA ln lc],.string s] w fun e w'=>e= .returned (.int .i64 (fnd D.Nm nn s))∧Below w.heap.size w w':=by
 have HT:=LH ht
 have SF:=LH fun g w hT hy hg=>find_node NA nn nc D s g w h2 hT hy hg
 generalize fnd D.Nm nn s=v at SF⊢
 clear ht
 go_enter Tryz.func113,Tryz.ntmps113
 go_wp2_with (first
  |(go_at_call 110
    with_reducible refine (SF.out _ _ ?_ ?_ ?_).mono ?_
    focus (exact HT.out.below (nl _) (((bR _ w).alloc (nl _) _).alloc (by simp) _))
    focus (simp)
    focus (simp)
    rintro e w3 ⟨rfl,hb3⟩
    have H3:Hid (Below w.heap.size w w3):=(((bR _ w).alloc (nl _) _).alloc (by simp) _).trans (hb3.mono (by simp;omega))
    clear hb3))
 go_ret
 exact ⟨rfl,H3.out⟩
set_option maxRecDepth 100000 in
set_option maxHeartbeats 2000000 in
theorem zN6 (NA LA:Option Addr) (nn nc ln lc:Nat) (D:Nds) (s:ByteArray) (w:World) (h2:nn≤2000) (ht:NdIn w NA nn D):
 Calls Tryz.prog 71 #[.agg #[.slice NA nn nc,.slice LA ln lc],.string s] w fun e w'=>e= .returned (.int .i64 (fnd D.Nm nn s))∧Below w.heap.size w w':=by
 obtain ⟨k,hk,hv⟩:=zG7 D.Nm nn s
 generalize fnd D.Nm nn s=v at hv⊢
 have HT:=LH ht
 have HK:=LH hk
 have H2:=LH h2
 have HV:=LH hv
 have HB0:Hid (Blk (w.alloc (Obj.cells #[.slice NA nn nc,.slice LA ln lc] 52)) w.heap.size 52 #[.slice NA nn nc,.slice LA ln lc]):=Blk.new _ _ _
 have HW0:Hid (Below w.heap.size w (w.alloc (Obj.cells #[.slice NA nn nc,.slice LA ln lc] 52))):=(bR _ w).alloc (nl _) _
 clear ht hk h2 hv
 go_enter Tryz.func71,Tryz.ntmps71
 go_wp2_with fail
 generalize w.alloc (Obj.cells #[.slice NA nn nc,.slice LA ln lc] 52)=w1 at HB0 HW0⊢
 generalize hgw:w.heap.size=gw at HB0⊢
 go_loopw [5] (fun u wr=>∃i:Nat,Hid (i≤nn∧i≤k)∧u= .int .i64 i∧Hid (Below w1.heap.size w1 wr)) (fun u _=>nn - (RowKit.intOf u).toNat)
 case atStart=>exact ⟨0,⟨Nat.zero_le _,Nat.zero_le _⟩,rfl,bR _ _⟩
 case round=>
  obtain ⟨i,Hi,rfl,HW⟩:=hrel
  have HBr:=LH (HB0.out.call HW.out)
  have d0:=HBr.out.cell 0
  have d1:=HBr.out.cell 1
  simp only [List.getElem?_toArray,List.getElem?_cons_zero,List.getElem?_cons_succ] at d0 d1
  have HWW:Hid (Below w.heap.size w wr):=HW0.out.trans (HW.out.mono HW0.out.size)
  by_cases hlt:i<nn
  ·have T0:decide ((i:Int)<(nn:Int))=true:=by simp<;> omega
   have T0':decide (i<nn)=true:=dU hlt
   obtain ⟨i',hi'⟩:∃z,z=i+1:=⟨_,rfl⟩
   have x0:IntKind.i64.wrap ((i:Int)+1)=(i':Int):=by have:=H2.out;rw [IntKind.wrap_i64];omega
   obtain ⟨b,off,rfl,hb,hC,_⟩:=(HT.out.below (nl _) HWW.out).at hlt
   have c0:=hC 0 _ rfl
   have k0:(0:Int)≤(i:Int):=by omega
   have k1:(i:Int)<(nn:Int):=by omega
   have HMS:Hid (nn - (RowKit.intOf (Value.int .i64 (i':Int))).toNat<nn - (RowKit.intOf (Value.int .i64 (i:Int))).toNat):=by show _<_;simp [RowKit.intOf];omega
   simp only [Nat.add_zero] at c0
   rcases zD7 HK.out hlt Hi.out.2 with ⟨hp,hik⟩|⟨hp,hik⟩
   ·have HR:Hid ((i:Int)=v):=by show (i:Int)=v;rw [HV.out,hik,if_pos (by omega)]
    have e:D.Nm i=s:=of_decide_eq_true hp
    rw [e] at c0
    clear hi' hp hik hC e
    go_wp2_with fail
    go_ret
    exact ⟨zC3 HR.out,HWW.out⟩
   ·have HI':Hid (i'≤nn∧i'≤k):=by show _∧_;omega
    have e:D.Nm i≠s:=of_decide_eq_false hp
    have u1:¬(D.Nm i).toList=s.toList:=fun h=>e (zC1 h)
    have u2:((D.Nm i).toList==s.toList)=false:=by simp [u1]
    clear hi' hp hik hC e
    go_wp2_with fail
    go_roundw
    case rel=>exact ⟨i',HI',rfl,HW⟩
    case measure=>exact HMS.out
  ·have e:i=nn:=by have:=Hi.out;omega
   have HR:Hid ((-1:Int)=v):=by show (-1:Int)=v;rw [HV.out,if_neg (by have:=Hi.out;omega)]
   have T0:decide ((i:Int)<(nn:Int))=false:=by simp<;> omega
   have T0':decide (i<nn)=false:=dF hlt
   clear e hlt
   go_wp2_with fail
   go_ret
   exact ⟨zC3 HR.out,HWW.out⟩
set_option maxRecDepth 100000 in
theorem p_link (nm s fr tn:ByteArray) (kd ln up dn:Int) (sc:ByteArray) (wd ht:Int) (A:Option Addr) (n c:Nat) (g:Nat) (f:Bool) (hf:f=decide (nm=s)) (w:World) (hy:w.cell? ⟨g,0,none⟩=some (.string s)) (hg:g<w.heap.size):
 Calls Tryz.prog 161 #[.agg #[.string nm,.string fr,.string tn,.int .i64 kd,.int .i64 ln,.int .i64 up,.int .i64 dn,.string sc,.int .i64 wd,.int .i64 ht,.slice A n c],.pointer (some ⟨g,0,none⟩)] w fun e w'=>e= .returned (.bool f)∧Below w.heap.size w w':=by
 by_cases h:nm=s
 ·subst h
  obtain rfl:f=true:=by rw [hf];simp
  clear hf
  go_enter Tryz.func161,Tryz.ntmps161
  go_wp2_with fail
  go_ret
  exact ⟨by first |rfl |(simp;done),bel⟩
 ·have t1:¬nm.toList=s.toList:=fun e=>h (zC1 e)
  have t2:(nm.toList==s.toList)=false:=by simp [t1]
  obtain rfl:f=false:=by rw [hf];exact dF h
  clear hf h
  go_enter Tryz.func161,Tryz.ntmps161
  go_wp2_with fail
  go_ret
  exact ⟨by first |rfl |(simp;done),bel⟩
set_option maxRecDepth 100000 in
set_option maxHeartbeats 2000000 in
theorem find_link (A:Option Addr) (n c:Nat) (D:Lks) (s:ByteArray) (g:Nat) (w:World) (h2:n≤2000) (ht:LkIn w A n D) (hy:w.cell? ⟨g,0,none⟩=some (.string s)) (hg:g<w.heap.size):
 Calls Tryz.prog 111 #[.slice A n c,.func (.func 161) #[] #[.pointer (some ⟨g,0,none⟩)]] w fun e w'=>e= .returned (.int .i64 (fnd D.Nm n s))∧Below w.heap.size w w':=by
 obtain ⟨k,hk,hv⟩:=zG7 D.Nm n s
 generalize fnd D.Nm n s=v at hv⊢
 have HT:=LH ht
 have HK:=LH hk
 have H2:=LH h2
 have HV:=LH hv
 have HY:=LH hy
 clear hy ht hk h2 hv
 go_enter Tryz.func111,Tryz.ntmps111
 go_wp2_with fail
 go_loopw [8] (fun u wr=>∃i:Nat,Hid (i≤n∧i≤k)∧u= .int .i64 i∧Hid (Below w.heap.size w wr)) (fun u _=>n - (RowKit.intOf u).toNat)
 case atStart=>exact ⟨0,⟨Nat.zero_le _,Nat.zero_le _⟩,rfl,bR _ _⟩
 case round=>
  obtain ⟨i,Hi,rfl,HW⟩:=hrel
  by_cases hlt:i<n
  ·have T0:decide ((i:Int)<(n:Int))=true:=by simp<;> omega
   have T0':decide (i<n)=true:=dU hlt
   obtain ⟨i',hi'⟩:∃z,z=i+1:=⟨_,rfl⟩
   have x0:IntKind.i64.wrap ((i:Int)+1)=(i':Int):=by have:=H2.out;rw [IntKind.wrap_i64];omega
   obtain ⟨b,off,rfl,hb,hC,_⟩:=(HT.out.below (nl _) HW.out).at hlt
   have c0:=hC 0 _ rfl
   have c1:=hC 1 _ rfl
   have c2:=hC 2 _ rfl
   have c3:=hC 3 _ rfl
   have c4:=hC 4 _ rfl
   have c5:=hC 5 _ rfl
   have c6:=hC 6 _ rfl
   have c7:=hC 7 _ rfl
   have c8:=hC 8 _ rfl
   have c9:=hC 9 _ rfl
   have c10:=hC 10 _ rfl
   have k0:(0:Int)≤(i:Int):=by omega
   have k1:(i:Int)<(n:Int):=by omega
   have hyr:wr.cell? ⟨g,0,none⟩=some (.string s):=(HW.out.cell (p:=⟨g,0,none⟩) hg).trans HY.out
   have hgr:g<wr.heap.size:=Nat.lt_of_lt_of_le hg HW.out.size
   have HMS:Hid (n - (RowKit.intOf (Value.int .i64 (i':Int))).toNat<n - (RowKit.intOf (Value.int .i64 (i:Int))).toNat):=by show _<_;simp [RowKit.intOf];omega
   rcases zD7 HK.out hlt Hi.out.2 with ⟨hp,hik⟩|⟨hp,hik⟩
   ·have KK:=LH (p_link (D.Nm i) s (D.Fr i) (D.To i) (D.Kd i) (D.Ln i) (D.Up i) (D.Dn i) (D.Sc i) (D.Wd i) (D.Ht i) (D.CA i) (D.CN i) (D.CC i) g true hp.symm wr hyr hgr)
    have HR:Hid ((i:Int)=v):=by show (i:Int)=v;rw [HV.out,hik,if_pos (by omega)]
    simp only [Nat.add_zero] at c0
    clear hi' hp hik hC hyr hgr
    go_wp2_with (first |(go_at_call 161;(with_reducible refine (KK.out).mono ?_);rintro e w1 ⟨rfl,hb1⟩;obtain ⟨hc1,hf1⟩:=zA8 hb1;have hz1:=hb1.size;(try simp at hz1);(try simp only [heap_drew,World.heap_drewN] at hz1 hc1 hf1);(try have hs1:=Nat.lt_of_succ_le hz1);(try have hs2:=Nat.lt_of_succ_lt hs1);(try have y0:w.heap.size<w1.heap.size:=by omega);(try have y1:w.heap.size+1<w1.heap.size:=by omega);(try have y2:w.heap.size+2<w1.heap.size:=by omega)))
    go_ret
    refine ⟨zC3 HR.out,?_⟩
    have:=HW.out
    exact bel
   ·have KK:=LH (p_link (D.Nm i) s (D.Fr i) (D.To i) (D.Kd i) (D.Ln i) (D.Up i) (D.Dn i) (D.Sc i) (D.Wd i) (D.Ht i) (D.CA i) (D.CN i) (D.CC i) g false hp.symm wr hyr hgr)
    have HI':Hid (i'≤n∧i'≤k):=by show _∧_;omega
    simp only [Nat.add_zero] at c0
    clear hi' hp hik hC hyr hgr
    go_wp2_with (first |(go_at_call 161;(with_reducible refine (KK.out).mono ?_);rintro e w1 ⟨rfl,hb1⟩;obtain ⟨hc1,hf1⟩:=zA8 hb1;have hz1:=hb1.size;(try simp at hz1);(try simp only [heap_drew,World.heap_drewN] at hz1 hc1 hf1);(try have hs1:=Nat.lt_of_succ_le hz1);(try have hs2:=Nat.lt_of_succ_lt hs1);(try have y0:w.heap.size<w1.heap.size:=by omega);(try have y1:w.heap.size+1<w1.heap.size:=by omega);(try have y2:w.heap.size+2<w1.heap.size:=by omega)))
    go_roundw
    case rel=>exact ⟨i',HI',rfl,by have:=HW.out;exact bel⟩
    case measure=>exact HMS.out
  ·have e:i=n:=by have:=Hi.out;omega
   have HR:Hid ((-1:Int)=v):=by show (-1:Int)=v;rw [HV.out,if_neg (by have:=Hi.out;omega)]
   have T0:decide ((i:Int)<(n:Int))=false:=by simp<;> omega
   have T0':decide (i<n)=false:=dF hlt
   clear e hlt
   go_wp2_with fail
   go_ret
   exact ⟨zC3 HR.out,HW.out⟩
set_option maxRecDepth 100000 in
theorem n_link (NA LA:Option Addr) (nn nc ln lc:Nat) (D:Lks) (s:ByteArray) (w:World) (h2:ln≤2000) (ht:LkIn w LA ln D):
 Calls Tryz.prog 115 #[.agg #[.slice NA nn nc,.slice LA ln lc],.string s] w fun e w'=>e= .returned (.int .i64 (fnd D.Nm ln s))∧Below w.heap.size w w':=by
 have HT:=LH ht
 have SF:=LH fun g w hT hy hg=>find_link LA ln lc D s g w h2 hT hy hg
 generalize fnd D.Nm ln s=v at SF⊢
 clear ht
 go_enter Tryz.func115,Tryz.ntmps115
 go_wp2_with (first
  |(go_at_call 111
    with_reducible refine (SF.out _ _ ?_ ?_ ?_).mono ?_
    focus (exact HT.out.below (nl _) (((bR _ w).alloc (nl _) _).alloc (by simp) _))
    focus (simp)
    focus (simp)
    rintro e w3 ⟨rfl,hb3⟩
    have H3:Hid (Below w.heap.size w w3):=(((bR _ w).alloc (nl _) _).alloc (by simp) _).trans (hb3.mono (by simp;omega))
    clear hb3))
 go_ret
 exact ⟨rfl,H3.out⟩
set_option maxRecDepth 100000 in
set_option maxHeartbeats 2000000 in
theorem zL4 (NA LA:Option Addr) (nn nc ln lc:Nat) (D:Lks) (s:ByteArray) (w:World) (h2:ln≤2000) (ht:LkIn w LA ln D):
 Calls Tryz.prog 72 #[.agg #[.slice NA nn nc,.slice LA ln lc],.string s] w fun e w'=>e= .returned (.int .i64 (fnd D.Nm ln s))∧Below w.heap.size w w':=by
 obtain ⟨k,hk,hv⟩:=zG7 D.Nm ln s
 generalize fnd D.Nm ln s=v at hv⊢
 have HT:=LH ht
 have HK:=LH hk
 have H2:=LH h2
 have HV:=LH hv
 have HB0:Hid (Blk (w.alloc (Obj.cells #[.slice NA nn nc,.slice LA ln lc] 52)) w.heap.size 52 #[.slice NA nn nc,.slice LA ln lc]):=Blk.new _ _ _
 have HW0:Hid (Below w.heap.size w (w.alloc (Obj.cells #[.slice NA nn nc,.slice LA ln lc] 52))):=(bR _ w).alloc (nl _) _
 clear ht hk h2 hv
 go_enter Tryz.func72,Tryz.ntmps72
 go_wp2_with fail
 generalize w.alloc (Obj.cells #[.slice NA nn nc,.slice LA ln lc] 52)=w1 at HB0 HW0⊢
 generalize hgw:w.heap.size=gw at HB0⊢
 go_loopw [5] (fun u wr=>∃i:Nat,Hid (i≤ln∧i≤k)∧u= .int .i64 i∧Hid (Below w1.heap.size w1 wr)) (fun u _=>ln - (RowKit.intOf u).toNat)
 case atStart=>exact ⟨0,⟨Nat.zero_le _,Nat.zero_le _⟩,rfl,bR _ _⟩
 case round=>
  obtain ⟨i,Hi,rfl,HW⟩:=hrel
  have HBr:=LH (HB0.out.call HW.out)
  have d0:=HBr.out.cell 0
  have d1:=HBr.out.cell 1
  simp only [List.getElem?_toArray,List.getElem?_cons_zero,List.getElem?_cons_succ] at d0 d1
  have HWW:Hid (Below w.heap.size w wr):=HW0.out.trans (HW.out.mono HW0.out.size)
  by_cases hlt:i<ln
  ·have T0:decide ((i:Int)<(ln:Int))=true:=by simp<;> omega
   have T0':decide (i<ln)=true:=dU hlt
   obtain ⟨i',hi'⟩:∃z,z=i+1:=⟨_,rfl⟩
   have x0:IntKind.i64.wrap ((i:Int)+1)=(i':Int):=by have:=H2.out;rw [IntKind.wrap_i64];omega
   obtain ⟨b,off,rfl,hb,hC,_⟩:=(HT.out.below (nl _) HWW.out).at hlt
   have c0:=hC 0 _ rfl
   have k0:(0:Int)≤(i:Int):=by omega
   have k1:(i:Int)<(ln:Int):=by omega
   have HMS:Hid (ln - (RowKit.intOf (Value.int .i64 (i':Int))).toNat<ln - (RowKit.intOf (Value.int .i64 (i:Int))).toNat):=by show _<_;simp [RowKit.intOf];omega
   simp only [Nat.add_zero] at c0
   rcases zD7 HK.out hlt Hi.out.2 with ⟨hp,hik⟩|⟨hp,hik⟩
   ·have HR:Hid ((i:Int)=v):=by show (i:Int)=v;rw [HV.out,hik,if_pos (by omega)]
    have e:D.Nm i=s:=of_decide_eq_true hp
    rw [e] at c0
    clear hi' hp hik hC e
    go_wp2_with fail
    go_ret
    exact ⟨zC3 HR.out,HWW.out⟩
   ·have HI':Hid (i'≤ln∧i'≤k):=by show _∧_;omega
    have e:D.Nm i≠s:=of_decide_eq_false hp
    have u1:¬(D.Nm i).toList=s.toList:=fun h=>e (zC1 h)
    have u2:((D.Nm i).toList==s.toList)=false:=by simp [u1]
    clear hi' hp hik hC e
    go_wp2_with fail
    go_roundw
    case rel=>exact ⟨i',HI',rfl,HW⟩
    case measure=>exact HMS.out
  ·have e:i=ln:=by have:=Hi.out;omega
   have HR:Hid ((-1:Int)=v):=by show (-1:Int)=v;rw [HV.out,if_neg (by have:=Hi.out;omega)]
   have T0:decide ((i:Int)<(ln:Int))=false:=by simp<;> omega
   have T0':decide (i<ln)=false:=dF hlt
   clear e hlt
   go_wp2_with fail
   go_ret
   exact ⟨zC3 HR.out,HWW.out⟩
def ndP (D:Nds) (i:Nat):Prop:=zQ1 (D.Nm i) (D.Kd i) (D.Ax i) (D.Ay i) (D.Iv i) (D.Gd i) (D.SN i) (D.SX i) (D.SY i) (D.Pt i) (D.Rs i)
def ndsP (D:Nds) (n i:Nat):Prop:=ndP D i∧fnd D.Nm n (D.Nm i)=(i:Int)
def lkP (K:Lks) (i:Nat):Prop:=zR7 (K.Nm i) (K.Fr i) (K.To i) (K.Kd i) (K.Ln i) (K.Up i) (K.Dn i) (K.Sc i) (K.Wd i) (K.Ht i) (K.CN i) (K.CX i) (K.CY i)
def lksP (D:Nds) (n:Nat) (K:Lks) (m i:Nat):Prop:=lkP K i∧fnd K.Nm m (K.Nm i)=(i:Int)∧0≤fnd D.Nm n (K.Fr i)∧0≤fnd D.Nm n (K.To i)∧D.Kd (fnd D.Nm n (K.Fr i)).toNat≠3
def netP (D:Nds) (n:Nat) (K:Lks) (m:Nat):Prop:=n≤300∧m≤400∧(∀i,i<n→ndsP D n i)∧∀i,i<m→lksP D n K m i
structure NetSz (D:Nds) (n:Nat) (K:Lks) (m:Nat):Prop where
 n2:n≤2000
 m2:m≤2000
 nm:∀i,i<n→(D.Nm i).size≤maxLen
 kn:∀i,i<m→(K.Nm i).size≤maxLen
 kf:∀i,i<m→(K.Fr i).size≤maxLen
 kt:∀i,i<m→(K.To i).size≤maxLen
 ks:∀i,i<m→(K.Sc i).size≤maxLen
 kc:∀i,i<m→K.CN i≤2000
def ndA (D:Nds) (i:Nat):Array Value:=#[.string (D.Nm i),.int .i64 (D.Kd i),.int .i64 (D.Ax i),.int .i64 (D.Ay i),.int .i64 (D.Iv i),.int .i64 (D.Gd i),.slice (D.SA i) (D.SN i) (D.SC i),.bool (D.Pt i),.int .i64 (D.Rs i)]
def lkA (K:Lks) (i:Nat):Array Value:=#[.string (K.Nm i),.string (K.Fr i),.string (K.To i),.int .i64 (K.Kd i),.int .i64 (K.Ln i),.int .i64 (K.Up i),.int .i64 (K.Dn i),.string (K.Sc i),.int .i64 (K.Wd i),.int .i64 (K.Ht i),.slice (K.CA i) (K.CN i) (K.CC i)]
theorem blk2 {w:World} {g:Nat} {t:TypeId} {a b:Value} (h:Blk w g t #[a,b]):w.cell? ⟨g,0,none⟩=some a∧w.cell? ⟨g,1,none⟩=some b:=⟨h.cell 0,h.cell 1⟩
theorem blk9 {w:World} {g:Nat} {t:TypeId} {a b c d e f i j k:Value} (h:Blk w g t #[a,b,c,d,e,f,i,j,k]):w.cell? ⟨g,0,none⟩=some a∧w.cell? ⟨g,1,none⟩=some b∧w.cell? ⟨g,2,none⟩=some c∧w.cell? ⟨g,3,none⟩=some d∧w.cell? ⟨g,4,none⟩=some e∧w.cell? ⟨g,5,none⟩=some f∧w.cell? ⟨g,6,none⟩=some i∧w.cell? ⟨g,7,none⟩=some j∧w.cell? ⟨g,8,none⟩=some k:=⟨h.cell 0,h.cell 1,h.cell 2,h.cell 3,h.cell 4,h.cell 5,h.cell 6,h.cell 7,h.cell 8⟩
theorem zC5 {w:World} {g:Nat} {t:TypeId} {a b c d e f i j k l m:Value} (h:Blk w g t #[a,b,c,d,e,f,i,j,k,l,m]):w.cell? ⟨g,0,none⟩=some a∧w.cell? ⟨g,1,none⟩=some b∧w.cell? ⟨g,2,none⟩=some c∧w.cell? ⟨g,3,none⟩=some d∧w.cell? ⟨g,4,none⟩=some e∧w.cell? ⟨g,5,none⟩=some f∧w.cell? ⟨g,6,none⟩=some i∧w.cell? ⟨g,7,none⟩=some j∧w.cell? ⟨g,8,none⟩=some k∧w.cell? ⟨g,9,none⟩=some l∧w.cell? ⟨g,10,none⟩=some m:=⟨h.cell 0,h.cell 1,h.cell 2,h.cell 3,h.cell 4,h.cell 5,h.cell 6,h.cell 7,h.cell 8,h.cell 9,h.cell 10⟩
end Go.Proofs.YtchakniaoeodmaaGreatDoor

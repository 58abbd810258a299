/- Merged texts of these proofs: ScF, ScG, ScJ, CpS, SlG, SlN, SlL, ScB, ScY, ScE. -/
import Derived.Test.YtchakniaoeodmaaGreatDoorMgK
import Derived.Laws.CopyRow
import Derived.Lib.AppendZeros
import Derived.Test.YtchakniaoeodmaaGreatDoorMgG
namespace Go.Proofs.YtchakniaoeodmaaGreatDoor
open Go.RowKit
set_option linter.unusedVariables false
set_option linter.unusedSimpArgs false
set_option maxRecDepth 100000 in
theorem p_fnode (nm s:ByteArray) (kd ax ay iv gd:Int) (A:Option Addr) (n c:Nat) (pt:Bool) (rs:Int) (g:Nat) (f:Bool) (hf:f=decide (nm=s)) (w:World) (hy:w.cell? ⟨g,1,none⟩=some (.string s)) (hg:g<w.heap.size):
 Calls Tryz.prog 125 #[.agg #[.string nm,.int .i64 kd,.int .i64 ax,.int .i64 ay,.int .i64 iv,.int .i64 gd,.slice A n c,.bool pt,.int .i64 rs],.pointer (some ⟨g,0,none⟩)] w fun e w'=>e= .returned (.bool f)∧Below w.heap.size w w':=by
 by_cases h:nm=s
 ·subst h
  obtain rfl:f=true:=by rw [hf];simp
  clear hf
  go_enter Tryz.func125,Tryz.ntmps125
  go_wp2_with fail
  go_ret
  exact ⟨by first |rfl |(simp;done),bel⟩
 ·have t1:¬nm.toList=s.toList:=fun e=>h (zC1 e)
  have t2:(nm.toList==s.toList)=false:=by simp [t1]
  obtain rfl:f=false:=by rw [hf];exact dF h
  clear hf h
  go_enter Tryz.func125,Tryz.ntmps125
  go_wp2_with fail
  go_ret
  exact ⟨by first |rfl |(simp;done),bel⟩
set_option maxRecDepth 100000 in
set_option maxHeartbeats 2000000 in
theorem find_fnode (A:Option Addr) (n c:Nat) (D:Nds) (s:ByteArray) (g:Nat) (w:World) (h2:n≤2000) (ht:NdIn w A n D) (hy:w.cell? ⟨g,1,none⟩=some (.string s)) (hg:g<w.heap.size):
 Calls Tryz.prog 110 #[.slice A n c,.func (.func 125) #[] #[.pointer (some ⟨g,0,none⟩)]] w fun e w'=>e= .returned (.int .i64 (fnd D.Nm n s))∧Below w.heap.size w w':=by
 obtain ⟨k,hk,hv⟩:=zG7 D.Nm n s
 generalize fnd D.Nm n s=v at hv⊢
 have HT:=LH ht
 have HK:=LH hk
 have H2:=LH h2
 have HV:=LH hv
 have HY:=LH hy
 clear hy ht hk h2 hv
 go_enter Tryz.func110,Tryz.ntmps110
 go_wp2_with fail
 go_loopw [8] (fun u wr=>∃i:Nat,Hid (i≤n∧i≤k)∧u= .int .i64 i∧Hid (Below w.heap.size w wr)) (fun u _=>n - (RowKit.intOf u).toNat)
 case atStart=>exact ⟨0,⟨Nat.zero_le _,Nat.zero_le _⟩,rfl,bR _ _⟩
 case round=>
  obtain ⟨i,Hi,rfl,HW⟩:=hrel
  by_cases hlt:i<n
  ·have T0:decide ((i:Int)<(n:Int))=true:=by simp<;> omega
   have T0':decide (i<n)=true:=dU hlt
   obtain ⟨i',hi'⟩:∃z,z=i+1:=⟨_,rfl⟩
   have x0:IntKind.i64.wrap ((i:Int)+1)=(i':Int):=by have:=H2.out;rw [IntKind.wrap_i64];omega
   obtain ⟨b,off,rfl,hb,hC,_⟩:=(HT.out.below (nl _) HW.out).at hlt
   have c0:=hC 0 _ rfl
   have c1:=hC 1 _ rfl
   have c2:=hC 2 _ rfl
   have c3:=hC 3 _ rfl
   have c4:=hC 4 _ rfl
   have c5:=hC 5 _ rfl
   have c6:=hC 6 _ rfl
   have c7:=hC 7 _ rfl
   have c8:=hC 8 _ rfl
   have k0:(0:Int)≤(i:Int):=by omega
   have k1:(i:Int)<(n:Int):=by omega
   have hyr:wr.cell? ⟨g,1,none⟩=some (.string s):=(HW.out.cell (p:=⟨g,1,none⟩) hg).trans HY.out
   have hgr:g<wr.heap.size:=Nat.lt_of_lt_of_le hg HW.out.size
   have HMS:Hid (n - (RowKit.intOf (Value.int .i64 (i':Int))).toNat<n - (RowKit.intOf (Value.int .i64 (i:Int))).toNat):=by show _<_;simp [RowKit.intOf];omega
   rcases zD7 HK.out hlt Hi.out.2 with ⟨hp,hik⟩|⟨hp,hik⟩
   ·have KK:=LH (p_fnode (D.Nm i) s (D.Kd i) (D.Ax i) (D.Ay i) (D.Iv i) (D.Gd i) (D.SA i) (D.SN i) (D.SC i) (D.Pt i) (D.Rs i) g true hp.symm wr hyr hgr)
    have HR:Hid ((i:Int)=v):=by show (i:Int)=v;rw [HV.out,hik,if_pos (by omega)]
    simp only [Nat.add_zero] at c0
    clear hi' hp hik hC hyr hgr
    go_wp2_with (first |(go_at_call 125;(with_reducible refine (KK.out).mono ?_);rintro e w1 ⟨rfl,hb1⟩;obtain ⟨hc1,hf1⟩:=zA8 hb1;have hz1:=hb1.size;(try simp at hz1);(try simp only [heap_drew,World.heap_drewN] at hz1 hc1 hf1);(try have hs1:=Nat.lt_of_succ_le hz1);(try have hs2:=Nat.lt_of_succ_lt hs1);(try have y0:w.heap.size<w1.heap.size:=by omega);(try have y1:w.heap.size+1<w1.heap.size:=by omega);(try have y2:w.heap.size+2<w1.heap.size:=by omega)))
    go_ret
    refine ⟨zC3 HR.out,?_⟩
    have:=HW.out
    exact bel
   ·have KK:=LH (p_fnode (D.Nm i) s (D.Kd i) (D.Ax i) (D.Ay i) (D.Iv i) (D.Gd i) (D.SA i) (D.SN i) (D.SC i) (D.Pt i) (D.Rs i) g false hp.symm wr hyr hgr)
    have HI':Hid (i'≤n∧i'≤k):=by show _∧_;omega
    simp only [Nat.add_zero] at c0
    clear hi' hp hik hC hyr hgr
    go_wp2_with (first |(go_at_call 125;(with_reducible refine (KK.out).mono ?_);rintro e w1 ⟨rfl,hb1⟩;obtain ⟨hc1,hf1⟩:=zA8 hb1;have hz1:=hb1.size;(try simp at hz1);(try simp only [heap_drew,World.heap_drewN] at hz1 hc1 hf1);(try have hs1:=Nat.lt_of_succ_le hz1);(try have hs2:=Nat.lt_of_succ_lt hs1);(try have y0:w.heap.size<w1.heap.size:=by omega);(try have y1:w.heap.size+1<w1.heap.size:=by omega);(try have y2:w.heap.size+2<w1.heap.size:=by omega)))
    go_roundw
    case rel=>exact ⟨i',HI',rfl,by have:=HW.out;exact bel⟩
    case measure=>exact HMS.out
  ·have e:i=n:=by have:=Hi.out;omega
   have HR:Hid ((-1:Int)=v):=by show (-1:Int)=v;rw [HV.out,if_neg (by have:=Hi.out;omega)]
   have T0:decide ((i:Int)<(n:Int))=false:=by simp<;> omega
   have T0':decide (i<n)=false:=dF hlt
   clear e hlt
   go_wp2_with fail
   go_ret
   exact ⟨zC3 HR.out,HW.out⟩
set_option maxRecDepth 100000 in
theorem p_flink (nm s fr tw sc:ByteArray) (kd ln up dn wd ht:Int) (A:Option Addr) (n c:Nat) (g:Nat) (f:Bool) (hf:f=decide (nm=s)) (w:World) (hy:w.cell? ⟨g,10,none⟩=some (.string s)) (hg:g<w.heap.size):
 Calls Tryz.prog 126 #[.agg #[.string nm,.string fr,.string tw,.int .i64 kd,.int .i64 ln,.int .i64 up,.int .i64 dn,.string sc,.int .i64 wd,.int .i64 ht,.slice A n c],.pointer (some ⟨g,0,none⟩)] w fun e w'=>e= .returned (.bool f)∧Below w.heap.size w w':=by
 by_cases h:nm=s
 ·subst h
  obtain rfl:f=true:=by rw [hf];simp
  clear hf
  go_enter Tryz.func126,Tryz.ntmps126
  go_wp2_with fail
  go_ret
  exact ⟨by first |rfl |(simp;done),bel⟩
 ·have t1:¬nm.toList=s.toList:=fun e=>h (zC1 e)
  have t2:(nm.toList==s.toList)=false:=by simp [t1]
  obtain rfl:f=false:=by rw [hf];exact dF h
  clear hf h
  go_enter Tryz.func126,Tryz.ntmps126
  go_wp2_with fail
  go_ret
  exact ⟨by first |rfl |(simp;done),bel⟩
set_option maxRecDepth 100000 in
set_option maxHeartbeats 2000000 in
theorem find_flink (A:Option Addr) (n c:Nat) (D:Lks) (s:ByteArray) (g:Nat) (w:World) (h2:n≤2000) (ht:LkIn w A n D) (hy:w.cell? ⟨g,10,none⟩=some (.string s)) (hg:g<w.heap.size):
 Calls Tryz.prog 111 #[.slice A n c,.func (.func 126) #[] #[.pointer (some ⟨g,0,none⟩)]] w fun e w'=>e= .returned (.int .i64 (fnd D.Nm n s))∧Below w.heap.size w w':=by
 obtain ⟨k,hk,hv⟩:=zG7 D.Nm n s
 generalize fnd D.Nm n s=v at hv⊢
 have HT:=LH ht
 have HK:=LH hk
 have H2:=LH h2
 have HV:=LH hv
 have HY:=LH hy
 clear hy ht hk h2 hv
 go_enter Tryz.func111,Tryz.ntmps111
 go_wp2_with fail
 go_loopw [8] (fun u wr=>∃i:Nat,Hid (i≤n∧i≤k)∧u= .int .i64 i∧Hid (Below w.heap.size w wr)) (fun u _=>n - (RowKit.intOf u).toNat)
 case atStart=>exact ⟨0,⟨Nat.zero_le _,Nat.zero_le _⟩,rfl,bR _ _⟩
 case round=>
  obtain ⟨i,Hi,rfl,HW⟩:=hrel
  by_cases hlt:i<n
  ·have T0:decide ((i:Int)<(n:Int))=true:=by simp<;> omega
   have T0':decide (i<n)=true:=dU hlt
   obtain ⟨i',hi'⟩:∃z,z=i+1:=⟨_,rfl⟩
   have x0:IntKind.i64.wrap ((i:Int)+1)=(i':Int):=by have:=H2.out;rw [IntKind.wrap_i64];omega
   obtain ⟨b,off,rfl,hb,hC,_⟩:=(HT.out.below (nl _) HW.out).at hlt
   have c0:=hC 0 _ rfl
   have c1:=hC 1 _ rfl
   have c2:=hC 2 _ rfl
   have c3:=hC 3 _ rfl
   have c4:=hC 4 _ rfl
   have c5:=hC 5 _ rfl
   have c6:=hC 6 _ rfl
   have c7:=hC 7 _ rfl
   have c8:=hC 8 _ rfl
   have c9:=hC 9 _ rfl
   have c10:=hC 10 _ rfl
   have k0:(0:Int)≤(i:Int):=by omega
   have k1:(i:Int)<(n:Int):=by omega
   have hyr:wr.cell? ⟨g,10,none⟩=some (.string s):=(HW.out.cell (p:=⟨g,10,none⟩) hg).trans HY.out
   have hgr:g<wr.heap.size:=Nat.lt_of_lt_of_le hg HW.out.size
   have HMS:Hid (n - (RowKit.intOf (Value.int .i64 (i':Int))).toNat<n - (RowKit.intOf (Value.int .i64 (i:Int))).toNat):=by show _<_;simp [RowKit.intOf];omega
   rcases zD7 HK.out hlt Hi.out.2 with ⟨hp,hik⟩|⟨hp,hik⟩
   ·have KK:=LH (p_flink (D.Nm i) s (D.Fr i) (D.To i) (D.Sc i) (D.Kd i) (D.Ln i) (D.Up i) (D.Dn i) (D.Wd i) (D.Ht i) (D.CA i) (D.CN i) (D.CC i) g true hp.symm wr hyr hgr)
    have HR:Hid ((i:Int)=v):=by show (i:Int)=v;rw [HV.out,hik,if_pos (by omega)]
    simp only [Nat.add_zero] at c0
    clear hi' hp hik hC hyr hgr
    go_wp2_with (first |(go_at_call 126;(with_reducible refine (KK.out).mono ?_);rintro e w1 ⟨rfl,hb1⟩;obtain ⟨hc1,hf1⟩:=zA8 hb1;have hz1:=hb1.size;(try simp at hz1);(try simp only [heap_drew,World.heap_drewN] at hz1 hc1 hf1);(try have hs1:=Nat.lt_of_succ_le hz1);(try have hs2:=Nat.lt_of_succ_lt hs1);(try have y0:w.heap.size<w1.heap.size:=by omega);(try have y1:w.heap.size+1<w1.heap.size:=by omega);(try have y2:w.heap.size+2<w1.heap.size:=by omega)))
    go_ret
    refine ⟨zC3 HR.out,?_⟩
    have:=HW.out
    exact bel
   ·have KK:=LH (p_flink (D.Nm i) s (D.Fr i) (D.To i) (D.Sc i) (D.Kd i) (D.Ln i) (D.Up i) (D.Dn i) (D.Wd i) (D.Ht i) (D.CA i) (D.CN i) (D.CC i) g false hp.symm wr hyr hgr)
    have HI':Hid (i'≤n∧i'≤k):=by show _∧_;omega
    simp only [Nat.add_zero] at c0
    clear hi' hp hik hC hyr hgr
    go_wp2_with (first |(go_at_call 126;(with_reducible refine (KK.out).mono ?_);rintro e w1 ⟨rfl,hb1⟩;obtain ⟨hc1,hf1⟩:=zA8 hb1;have hz1:=hb1.size;(try simp at hz1);(try simp only [heap_drew,World.heap_drewN] at hz1 hc1 hf1);(try have hs1:=Nat.lt_of_succ_le hz1);(try have hs2:=Nat.lt_of_succ_lt hs1);(try have y0:w.heap.size<w1.heap.size:=by omega);(try have y1:w.heap.size+1<w1.heap.size:=by omega);(try have y2:w.heap.size+2<w1.heap.size:=by omega)))
    go_roundw
    case rel=>exact ⟨i',HI',rfl,by have:=HW.out;exact bel⟩
    case measure=>exact HMS.out
  ·have e:i=n:=by have:=Hi.out;omega
   have HR:Hid ((-1:Int)=v):=by show (-1:Int)=v;rw [HV.out,if_neg (by have:=Hi.out;omega)]
   have T0:decide ((i:Int)<(n:Int))=false:=by simp<;> omega
   have T0':decide (i<n)=false:=dF hlt
   clear e hlt
   go_wp2_with fail
   go_ret
   exact ⟨zC3 HR.out,HW.out⟩
set_option maxRecDepth 100000 in
theorem zL1 (kd:Int) (w:World):Calls Tryz.prog 52 #[.int .i64 kd] w fun e w'=>e= .returned (.bool (decide (kd=1∨kd=2∨kd=3)))∧w'=w:=by
 by_cases h1:kd=1
 ·subst h1
  go_enter Tryz.func52,Tryz.ntmps52
  go_wp2_with fail
  go_ret
  exact ⟨rfl,rfl⟩
 by_cases h2:kd=2
 ·subst h2
  go_enter Tryz.func52,Tryz.ntmps52
  go_wp2_with fail
  go_ret
  exact ⟨rfl,rfl⟩
 by_cases h3:kd=3
 ·subst h3
  go_enter Tryz.func52,Tryz.ntmps52
  go_wp2_with fail
  go_ret
  exact ⟨rfl,rfl⟩
 have t1:(kd==1)=false:=by simp [h1]
 have t2:(kd==2)=false:=by simp [h2]
 have t3:(kd==3)=false:=by simp [h3]
 rw [dF (show¬(kd=1∨kd=2∨kd=3) by omega)]
 clear h1 h2 h3
 go_enter Tryz.func52,Tryz.ntmps52
 go_wp2_with fail
 go_ret
 exact ⟨rfl,rfl⟩
theorem zV6 (w:World) (o:Obj) (cs:Array Value) (T:TypeId) (j:Nat):((w.alloc o).alloc (Obj.cells cs T)).cell? ⟨w.heap.size+1,j,none⟩=cs[j]?:=World.cell?_alloc_at (w:=w.alloc o) cs T (w.heap.size+1) j (by simp)
set_option maxRecDepth 100000 in
set_option maxHeartbeats 2000000 in
theorem zF1 (A B A1 A2:Option Addr) (n nc m mc n1 c1 n2 c2:Nat) (D:Nds) (E:Lks) (kd k1 ax ay iv gd rs k2 ln up dn wd hh:Int) (s t fr tw sc:ByteArray) (pt:Bool) (w:World) (hn2:n≤2000) (hm2:m≤2000) (hn:NdIn w A n D) (hl:LkIn w B m E) (v:Int) (hv:v=if kd=1∨kd=2∨kd=3 then fnd D.Nm n s else fnd E.Nm m t):
 Calls Tryz.prog 74 #[.agg #[.slice A n nc,.slice B m mc],.agg #[.int .i64 kd,.string s,.int .i64 k1,.int .i64 ax,.int .i64 ay,.int .i64 iv,.int .i64 gd,.slice A1 n1 c1,.bool pt,.int .i64 rs,.string t,.string fr,.string tw,.int .i64 k2,.int .i64 ln,.int .i64 up,.int .i64 dn,.string sc,.int .i64 wd,.int .i64 hh,.slice A2 n2 c2]] w fun e w'=>e= .returned (.int .i64 v)∧Below w.heap.size w w':=by
 obtain ⟨W2,hW2⟩:∃W,W=(w.alloc (Obj.cells #[.slice A n nc,.slice B m mc] 52)).alloc (Obj.cells #[.int .i64 kd,.string s,.int .i64 k1,.int .i64 ax,.int .i64 ay,.int .i64 iv,.int .i64 gd,.slice A1 n1 c1,.bool pt,.int .i64 rs,.string t,.string fr,.string tw,.int .i64 k2,.int .i64 ln,.int .i64 up,.int .i64 dn,.string sc,.int .i64 wd,.int .i64 hh,.slice A2 n2 c2] 34):=⟨_,rfl⟩
 have HB:Below w.heap.size w W2:=by rw [hW2];exact ((bR _ w).alloc (nl _) _).alloc (by simp) _
 have hz:W2.heap.size=w.heap.size+2:=by rw [hW2];simp
 have e1:W2.cell? ⟨w.heap.size+1,1,none⟩=some (.string s):=by rw [hW2,zV6];rfl
 have e2:W2.cell? ⟨w.heap.size+1,10,none⟩=some (.string t):=by rw [hW2,zV6];rfl
 have HBb:=LH HB
 have SO:=LH (zL1 kd)
 by_cases hk:kd=1∨kd=2∨kd=3
 ·rw [if_pos hk] at hv
  have S1:=LH (find_fnode A n nc D s (w.heap.size+1) W2 hn2 (hn.below (nl _) HB) e1 (by omega))
  rw [←hv] at S1
  rw [dU hk] at SO
  rw [hW2] at S1 HBb
  clear hn hl hv hk e1 e2 hz HB hW2 hn2 hm2
  go_enter Tryz.func74,Tryz.ntmps74
  go_wp2_with (first |(go_at_call 52;(with_reducible refine (SO.out _).mono ?_);rintro e w' ⟨rfl,rfl⟩)|(go_at_call 110;(with_reducible refine (S1.out).mono ?_);rintro e w1 ⟨rfl,hb1⟩;obtain ⟨hc1,hf1⟩:=zA8 hb1;have hz1:=hb1.size;(try simp at hz1);(try simp only [heap_drew,World.heap_drewN] at hz1 hc1 hf1);(try have hs1:=Nat.lt_of_succ_le hz1);(try have hs2:=Nat.lt_of_succ_lt hs1);(try have y0:w.heap.size<w1.heap.size:=by omega);(try have y1:w.heap.size+1<w1.heap.size:=by omega);(try have y2:w.heap.size+2<w1.heap.size:=by omega)))
  go_ret
  exact ⟨rfl,zA1 HBb.out hb1⟩
 ·rw [if_neg hk] at hv
  have S1:=LH (find_flink B m mc E t (w.heap.size+1) W2 hm2 (hl.below (nl _) HB) e2 (by omega))
  rw [←hv] at S1
  rw [dF hk] at SO
  rw [hW2] at S1 HBb
  clear hn hl hv hk e1 e2 hz HB hW2 hn2 hm2
  go_enter Tryz.func74,Tryz.ntmps74
  go_wp2_with (first |(go_at_call 52;(with_reducible refine (SO.out _).mono ?_);rintro e w' ⟨rfl,rfl⟩)|(go_at_call 111;(with_reducible refine (S1.out).mono ?_);rintro e w1 ⟨rfl,hb1⟩;obtain ⟨hc1,hf1⟩:=zA8 hb1;have hz1:=hb1.size;(try simp at hz1);(try simp only [heap_drew,World.heap_drewN] at hz1 hc1 hf1);(try have hs1:=Nat.lt_of_succ_le hz1);(try have hs2:=Nat.lt_of_succ_lt hs1);(try have y0:w.heap.size<w1.heap.size:=by omega);(try have y1:w.heap.size+1<w1.heap.size:=by omega);(try have y2:w.heap.size+2<w1.heap.size:=by omega)))
  go_ret
  exact ⟨rfl,zA1 HBb.out hb1⟩
set_option maxRecDepth 100000 in
theorem p_join (nm s fr tw sc:ByteArray) (kd ln up dn wd ht:Int) (A:Option Addr) (n c:Nat) (g:Nat) (f:Bool) (hf:f=decide (fr=s∨tw=s)) (w:World) (hy:w.cell? ⟨g,0,none⟩=some (.string s)) (hg:g<w.heap.size):
 Calls Tryz.prog 162 #[.agg #[.string nm,.string fr,.string tw,.int .i64 kd,.int .i64 ln,.int .i64 up,.int .i64 dn,.string sc,.int .i64 wd,.int .i64 ht,.slice A n c],.pointer (some ⟨g,0,none⟩)] w fun e w'=>e= .returned (.bool f)∧Below w.heap.size w w':=by
 by_cases h:fr=s
 ·subst h
  obtain rfl:f=true:=by rw [hf];simp
  clear hf
  go_enter Tryz.func162,Tryz.ntmps162
  go_wp2_with fail
  go_ret
  exact ⟨by first |rfl |(simp;done),bel⟩
 have t1:¬fr.toList=s.toList:=fun e=>h (zC1 e)
 have t2:(fr.toList==s.toList)=false:=by simp [t1]
 by_cases h':tw=s
 ·subst h'
  obtain rfl:f=true:=by rw [hf];simp
  clear hf h
  go_enter Tryz.func162,Tryz.ntmps162
  go_wp2_with fail
  go_ret
  exact ⟨by first |rfl |(simp;done),bel⟩
 have t3:¬tw.toList=s.toList:=fun e=>h' (zC1 e)
 have t4:(tw.toList==s.toList)=false:=by simp [t3]
 obtain rfl:f=false:=by rw [hf];exact dF (by rintro (q |q);exact h q;exact h' q)
 clear hf h h'
 go_enter Tryz.func162,Tryz.ntmps162
 go_wp2_with fail
 go_ret
 exact ⟨by first |rfl |(simp;done),bel⟩
set_option maxRecDepth 100000 in
set_option maxHeartbeats 2000000 in
theorem find_join (A:Option Addr) (n c k:Nat) (D:Lks) (s:ByteArray) (g:Nat) (w:World) (h2:n≤2000) (ht:LkIn w A n D) (hy:w.cell? ⟨g,0,none⟩=some (.string s)) (hg:g<w.heap.size) (hk:FirstAt (fun j=>decide (D.Fr j=s∨D.To j=s)) n k) (v:Int) (hv:v=if k<n then (k:Int) else -1):
 Calls Tryz.prog 111 #[.slice A n c,.func (.func 162) #[] #[.pointer (some ⟨g,0,none⟩)]] w fun e w'=>e= .returned (.int .i64 v)∧Below w.heap.size w w':=by
 have HT:=LH ht
 have HK:=LH hk
 have H2:=LH h2
 have HV:=LH hv
 have HY:=LH hy
 clear hy ht hk h2 hv
 go_enter Tryz.func111,Tryz.ntmps111
 go_wp2_with fail
 go_loopw [8] (fun u wr=>∃i:Nat,Hid (i≤n∧i≤k)∧u= .int .i64 i∧Hid (Below w.heap.size w wr)) (fun u _=>n - (RowKit.intOf u).toNat)
 case atStart=>exact ⟨0,⟨Nat.zero_le _,Nat.zero_le _⟩,rfl,bR _ _⟩
 case round=>
  obtain ⟨i,Hi,rfl,HW⟩:=hrel
  by_cases hlt:i<n
  ·have T0:decide ((i:Int)<(n:Int))=true:=by simp<;> omega
   have T0':decide (i<n)=true:=dU hlt
   obtain ⟨i',hi'⟩:∃z,z=i+1:=⟨_,rfl⟩
   have x0:IntKind.i64.wrap ((i:Int)+1)=(i':Int):=by have:=H2.out;rw [IntKind.wrap_i64];omega
   obtain ⟨b,off,rfl,hb,hC,_⟩:=(HT.out.below (nl _) HW.out).at hlt
   have c0:=hC 0 _ rfl
   have c1:=hC 1 _ rfl
   have c2:=hC 2 _ rfl
   have c3:=hC 3 _ rfl
   have c4:=hC 4 _ rfl
   have c5:=hC 5 _ rfl
   have c6:=hC 6 _ rfl
   have c7:=hC 7 _ rfl
   have c8:=hC 8 _ rfl
   have c9:=hC 9 _ rfl
   have c10:=hC 10 _ rfl
   have k0:(0:Int)≤(i:Int):=by omega
   have k1:(i:Int)<(n:Int):=by omega
   have hyr:wr.cell? ⟨g,0,none⟩=some (.string s):=(HW.out.cell (p:=⟨g,0,none⟩) hg).trans HY.out
   have hgr:g<wr.heap.size:=Nat.lt_of_lt_of_le hg HW.out.size
   have HMS:Hid (n - (RowKit.intOf (Value.int .i64 (i':Int))).toNat<n - (RowKit.intOf (Value.int .i64 (i:Int))).toNat):=by show _<_;simp [RowKit.intOf];omega
   rcases zD7 HK.out hlt Hi.out.2 with ⟨hp,hik⟩|⟨hp,hik⟩
   ·have KK:=LH (p_join (D.Nm i) s (D.Fr i) (D.To i) (D.Sc i) (D.Kd i) (D.Ln i) (D.Up i) (D.Dn i) (D.Wd i) (D.Ht i) (D.CA i) (D.CN i) (D.CC i) g true hp.symm wr hyr hgr)
    have HR:Hid ((i:Int)=v):=by show (i:Int)=v;rw [HV.out,hik,if_pos (by omega)]
    simp only [Nat.add_zero] at c0
    clear hi' hp hik hC hyr hgr
    go_wp2_with (first |(go_at_call 162;(with_reducible refine (KK.out).mono ?_);rintro e w1 ⟨rfl,hb1⟩;obtain ⟨hc1,hf1⟩:=zA8 hb1;have hz1:=hb1.size;(try simp at hz1);(try simp only [heap_drew,World.heap_drewN] at hz1 hc1 hf1);(try have hs1:=Nat.lt_of_succ_le hz1);(try have hs2:=Nat.lt_of_succ_lt hs1);(try have y0:w.heap.size<w1.heap.size:=by omega);(try have y1:w.heap.size+1<w1.heap.size:=by omega);(try have y2:w.heap.size+2<w1.heap.size:=by omega)))
    go_ret
    refine ⟨zC3 HR.out,?_⟩
    have:=HW.out
    exact bel
   ·have KK:=LH (p_join (D.Nm i) s (D.Fr i) (D.To i) (D.Sc i) (D.Kd i) (D.Ln i) (D.Up i) (D.Dn i) (D.Wd i) (D.Ht i) (D.CA i) (D.CN i) (D.CC i) g false hp.symm wr hyr hgr)
    have HI':Hid (i'≤n∧i'≤k):=by show _∧_;omega
    simp only [Nat.add_zero] at c0
    clear hi' hp hik hC hyr hgr
    go_wp2_with (first |(go_at_call 162;(with_reducible refine (KK.out).mono ?_);rintro e w1 ⟨rfl,hb1⟩;obtain ⟨hc1,hf1⟩:=zA8 hb1;have hz1:=hb1.size;(try simp at hz1);(try simp only [heap_drew,World.heap_drewN] at hz1 hc1 hf1);(try have hs1:=Nat.lt_of_succ_le hz1);(try have hs2:=Nat.lt_of_succ_lt hs1);(try have y0:w.heap.size<w1.heap.size:=by omega);(try have y1:w.heap.size+1<w1.heap.size:=by omega);(try have y2:w.heap.size+2<w1.heap.size:=by omega)))
    go_roundw
    case rel=>exact ⟨i',HI',rfl,by have:=HW.out;exact bel⟩
    case measure=>exact HMS.out
  ·have e:i=n:=by have:=Hi.out;omega
   have HR:Hid ((-1:Int)=v):=by show (-1:Int)=v;rw [HV.out,if_neg (by have:=Hi.out;omega)]
   have T0:decide ((i:Int)<(n:Int))=false:=by simp<;> omega
   have T0':decide (i<n)=false:=dF hlt
   clear e hlt
   go_wp2_with fail
   go_ret
   exact ⟨zC3 HR.out,HW.out⟩
theorem has_join (A:Option Addr) (n c:Nat) (K:Lks) (s:ByteArray) (g:Nat) (w:World) (h2:n≤2000) (ht:LkIn w A n K) (hy:w.cell? ⟨g,0,none⟩=some (.string s)) (hg:g<w.heap.size) (f:Bool) (hf:f=true↔∃j,j<n∧(fun j=>decide (K.Fr j=s∨K.To j=s)) j=true):
 Calls Tryz.prog 67 #[.slice A n c,.func (.func 162) #[] #[.pointer (some ⟨g,0,none⟩)]] w fun e w'=>e= .returned (.bool f)∧Below w.heap.size w w':=by
 obtain ⟨k,hk⟩:=zG8 (fun j=>decide (K.Fr j=s∨K.To j=s)) n
 have hany:=zF9 hk
 have S:=LH (find_join A n c k K s g w h2 ht hy hg hk _ rfl)
 by_cases hkn:k<n
 ·have hft:f=true:=hf.2 (hany.1 hkn)
  rw [if_pos hkn] at S
  have t:decide ((0:Int)≤(k:Int))=true:=dU (by omega)
  subst hft
  clear hk hany hkn hf ht h2 hy
  go_enter Tryz.func67,Tryz.ntmps67
  go_wp2_with (first |(go_at_call 111;(with_reducible refine (S.out).mono ?_);rintro e w1 ⟨rfl,hb1⟩;obtain ⟨hc1,hf1⟩:=zA8 hb1;have hz1:=hb1.size;(try simp at hz1);(try simp only [heap_drew,World.heap_drewN] at hz1 hc1 hf1);(try have hs1:=Nat.lt_of_succ_le hz1);(try have hs2:=Nat.lt_of_succ_lt hs1);(try have y0:w.heap.size<w1.heap.size:=by omega);(try have y1:w.heap.size+1<w1.heap.size:=by omega);(try have y2:w.heap.size+2<w1.heap.size:=by omega)))
  go_ret
  refine ⟨rfl,?_⟩
  exact bel
 ·have hft:f=false:=by
   cases f with
   |false=>rfl
   |true=>exact absurd (hany.2 (hf.1 rfl)) hkn
  rw [if_neg hkn] at S
  subst hft
  clear hk hany hkn hf ht h2 hy
  go_enter Tryz.func67,Tryz.ntmps67
  go_wp2_with (first |(go_at_call 111;(with_reducible refine (S.out).mono ?_);rintro e w1 ⟨rfl,hb1⟩;obtain ⟨hc1,hf1⟩:=zA8 hb1;have hz1:=hb1.size;(try simp at hz1);(try simp only [heap_drew,World.heap_drewN] at hz1 hc1 hf1);(try have hs1:=Nat.lt_of_succ_le hz1);(try have hs2:=Nat.lt_of_succ_lt hs1);(try have y0:w.heap.size<w1.heap.size:=by omega);(try have y1:w.heap.size+1<w1.heap.size:=by omega);(try have y2:w.heap.size+2<w1.heap.size:=by omega)))
  go_ret
  refine ⟨rfl,?_⟩
  exact bel
set_option maxRecDepth 100000 in
set_option maxHeartbeats 2000000 in
theorem sc_joined (A B:Option Addr) (n nc m mc:Nat) (E:Lks) (s:ByteArray) (w:World) (hm2:m≤2000) (hl:LkIn w B m E) (f:Bool) (hf:f=true↔∃j,j<m∧(E.Fr j=s∨E.To j=s)):
 Calls Tryz.prog 120 #[.agg #[.slice A n nc,.slice B m mc],.string s] w fun e w'=>e= .returned (.bool f)∧Below w.heap.size w w':=by
 obtain ⟨W2,hW2⟩:∃W,W=(w.alloc (Obj.cells #[.slice A n nc,.slice B m mc] 52)).alloc (Obj.cells #[.string s] 9):=⟨_,rfl⟩
 have HB:Below w.heap.size w W2:=by rw [hW2];exact ((bR _ w).alloc (nl _) _).alloc (by simp) _
 have hz:W2.heap.size=w.heap.size+2:=by rw [hW2];simp
 have e1:W2.cell? ⟨w.heap.size+1,0,none⟩=some (.string s):=by rw [hW2,zV6];rfl
 have HBb:=LH HB
 have S1:=LH (has_join B m mc E s (w.heap.size+1) W2 hm2 (hl.below (nl _) HB) e1 (by omega) f (by simpa using hf))
 rw [hW2] at S1 HBb
 clear hl hf e1 hz HB hW2 hm2
 go_enter Tryz.func120,Tryz.ntmps120
 go_wp2_with (first |(go_at_call 67;(with_reducible refine (S1.out).mono ?_);rintro e w1 ⟨rfl,hb1⟩;obtain ⟨hc1,hf1⟩:=zA8 hb1;have hz1:=hb1.size;(try simp at hz1);(try simp only [heap_drew,World.heap_drewN] at hz1 hc1 hf1);(try have hs1:=Nat.lt_of_succ_le hz1);(try have hs2:=Nat.lt_of_succ_lt hs1);(try have y0:w.heap.size<w1.heap.size:=by omega);(try have y1:w.heap.size+1<w1.heap.size:=by omega);(try have y2:w.heap.size+2<w1.heap.size:=by omega)))
 go_ret
 exact ⟨rfl,zA1 HBb.out hb1⟩
set_option maxRecDepth 100000 in
theorem zE8 (kd:Int) (w:World):Calls Tryz.prog 119 #[.int .i64 kd] w fun e w'=>e= .returned (.bool (decide (1≤kd∧kd≤6)))∧w'=w:=by
 by_cases h1:1≤kd
 ·have t1:decide (1≤kd)=true:=dU h1
  by_cases h2:kd≤6
  ·have t2:decide (kd≤6)=true:=dU h2
   rw [dU (And.intro h1 h2)]
   clear h1 h2
   go_enter Tryz.func119,Tryz.ntmps119
   go_wp2_with fail
   go_ret
   exact ⟨rfl,rfl⟩
  ·have t2:decide (kd≤6)=false:=dF h2
   rw [dF (fun q=>h2 q.2)]
   clear h1 h2
   go_enter Tryz.func119,Tryz.ntmps119
   go_wp2_with fail
   go_ret
   exact ⟨rfl,rfl⟩
 ·have t1:decide (1≤kd)=false:=dF h1
  rw [dF (fun q=>h1 q.1)]
  clear h1
  go_enter Tryz.func119,Tryz.ntmps119
  go_wp2_with fail
  go_ret
  exact ⟨rfl,rfl⟩
theorem zH7 {P:Program} (w:World) (dT sT ty elem:TypeId) (g o dLen dCap:Nat) (a:Addr) (sLen sCap:Nat) (cur:Array Value) (t:TypeId) (cs:List Value) (s:Nat)
 (hu:P.underlying dT=some (.slice elem)) (hs:(P.info? elem).map (·.size)=some s)
 (hg:w.heap[g]?=some (.cells cur t (0,0))) (hn:cs.length=Nat.min sLen dLen*s)
 (hsrc:∀j v,cs[j]?=some v→w.cell? (a.add j)=some v) (hfit:o+cs.length≤cur.size) (h1:∀v∈cs,v.oneCell'=true):
 (Builtin.copy_ #[dT,sT] ty #[.slice (some ⟨g,o,none⟩) dLen dCap,.slice (some a) sLen sCap]).run P w=
   .ok (goInt (Nat.min sLen dLen)) (w.setRow g (cur.toList.take o++cs++cur.toList.drop (o+cs.length)).toArray):=by
 have hl:=run_loadCells_list (P:=P) w a cs hsrc
 have hst:=run_storeCells_at P g o t cs 0 cur w hg (by simpa using hfit) h1
 cases hq:P.info? elem with
 |none=>simp [hq] at hs
 |some i=>
  have hi:i.size=s:=by simpa [hq] using hs
  simp [Builtin.copy_,run_underlying hu,Builtin.lenOf,Builtin.firstCells,sizeOf,typeInfo,hq,hi,←hn,hl,hst]
theorem zN4 {P:Program} (w:World) (T ty elem:TypeId) (i:TypeInfo) (z:Value) (g o n cap:Nat) (cur:Array Value) (t:TypeId)
 (hu:P.underlying T=some (.slice elem)) (hi:P.info? elem=some i) (hz:i.zero=some z)
 (hg:w.heap[g]?=some (.cells cur t (0,0))) (h0:0<n) (hfit:o+(Builtin.zeroCells z.cells n).toList.length≤cur.size) (h1:∀u∈(Builtin.zeroCells z.cells n).toList,u.oneCell'=true):
 (Builtin.clear_ #[T] ty #[.slice (some ⟨g,o,none⟩) n cap]).run P w=
   .ok (.tuple #[]) (w.setRow g (cur.toList.take o++(Builtin.zeroCells z.cells n).toList++cur.toList.drop (o+(Builtin.zeroCells z.cells n).toList.length)).toArray):=by
 obtain ⟨m,rfl⟩:∃m,n=m+1:=⟨n - 1,by omega⟩
 have hst:=run_storeCells_at P g o t (Builtin.zeroCells z.cells (m+1)).toList 0 cur w hg (by simpa using hfit) h1
 simp only [Nat.add_zero] at hst
 simp [Builtin.clear_,run_underlying hu,zeroValue,typeInfo,hi,hz,hst]
def RowsS (s:Nat) (M:List (List Value)):Prop:=∀r,r∈M→r.length=s∧∀u,u∈r→u.oneCell'=true
theorem RowsS.len {s:Nat}:∀{M:List (List Value)},RowsS s M→M.flatten.length=M.length*s
 |[],_=>by simp
 |r::M,h=>by
  rw [List.flatten_cons,List.length_append,(h r (by simp)).1,RowsS.len (fun x hx=>h x (by simp [hx])),List.length_cons,Nat.succ_mul,Nat.add_comm]
theorem RowsS.one {s:Nat} {M:List (List Value)} (h:RowsS s M):∀u,u∈M.flatten→u.oneCell'=true:=fun u hu=>by
 obtain ⟨r,hr,hu⟩:=List.mem_flatten.1 hu
 exact (h r hr).2 u hu
theorem RowsS.sub {s:Nat} {M M':List (List Value)} (h:RowsS s M) (hs:∀r,r∈M'→r∈M):RowsS s M':=fun r hr=>h r (hs r hr)
theorem RowsS.app {s:Nat} {M M':List (List Value)} (h:RowsS s M) (h':RowsS s M'):RowsS s (M++M'):=fun r hr=>(List.mem_append.1 hr).elim (h r) (h' r)
theorem zP2 {s:Nat}:∀{M:List (List Value)} (i:Nat),RowsS s M→(M.take i).flatten=M.flatten.take (i*s)
 |[],i,_=>by simp
 |r::M,0,_=>by simp
 |r::M,i+1,h=>by
  have hr:=(h r (by simp)).1
  rw [List.take_succ_cons,List.flatten_cons,List.flatten_cons,zP2 i (fun x hx=>h x (by simp [hx])),Nat.succ_mul,Nat.add_comm,←hr,List.take_length_add_append]
theorem zP3 {s:Nat}:∀{M:List (List Value)} (i:Nat),RowsS s M→(M.drop i).flatten=M.flatten.drop (i*s)
 |[],i,_=>by simp
 |r::M,0,_=>by simp
 |r::M,i+1,h=>by
  have hr:=(h r (by simp)).1
  rw [List.drop_succ_cons,List.flatten_cons,zP3 i (fun x hx=>h x (by simp [hx])),Nat.succ_mul,Nat.add_comm,←hr,List.drop_length_add_append]
theorem zE4 {w:World} {B:Nat} {e:TypeId} {s g n n' cap:Nat} {cur cur':Array Value} {xs:List Value} (hB:B≤g) (hg:w.heap[g]?=some (.cells cur e (0,0))) (hn:n'≤cap) (hc:cap≤maxLen) (hs:cur'.size=cap*s) (ht:cur'.toList.take (n'*s)=xs) (hx:xs.length=n'*s):
 (w.setRow g cur').ownsRow B e s (.slice (some ⟨g,0,none⟩) n' cap) n' xs∧w.grownBy (w.setRow g cur') (some g):=
 ⟨⟨hx,.inr ⟨g,cap,cur',rfl,hB,setRow_heap w g cur cur' e (0,0) hg,hn,hc,hs,ht⟩⟩,⟨rfl,rfl,rfl,by simp,fun k _ hk=>setRow_other w g k cur' (fun q=>hk (by rw [q]))⟩⟩
def tlA (g cap l s:Nat):Addr:=if cap=l then ⟨g,0,none⟩ else ⟨g,l*s,none⟩
theorem zW6 {g cap l s:Nat} (h:¬cap=l):tlA g cap l s=⟨g,l*s,none⟩:=if_neg h
theorem zU6 (b off j:Nat):(⟨b,off,none⟩:Addr).add j=⟨b,off+j,none⟩:=kaddr b off j
theorem zD8 {P:Program} (W:World) (t e:TypeId) (s:Nat) (ht:P.underlying t=some (.slice e)) (hz:∀w,(Go.sizeOf e).run P w= .ok s w) (g n cap l:Nat) (hl:l≤n) (hn:n≤cap):
 (Instr.slice t (.slice (some ⟨g,0,none⟩) n cap) (some (.int .i64 (l:Int))) none none).run P W= .ok (.slice (some (tlA g cap l s)) (n - l) (cap - l)) W:=by
 have ht':P.underlying t=some (.slice (P.elem t)):=by simp [Program.elem,ht]
 have he:P.elem t=e:=by simp [Program.elem,ht]
 rw [run_slice_l W t _ _ _ ht' .i64 _ (by omega) (by omega),he,hz]
 unfold tlA
 by_cases h0:cap=l
 ·simp [Result.andThen,sliced,h0]
 ·by_cases h1:l=0
  ·subst h1;simp [Result.andThen,sliced,Addr.add,h0]
  ·simp [Result.andThen,sliced,Addr.add,h0,h1]
   intro h;exact h.symm
theorem zH6 {P:Program} (W:World) (t e:TypeId) (s:Nat) (ht:P.underlying t=some (.slice e)) (hz:∀w,(Go.sizeOf e).run P w= .ok s w) (g n cap l h:Nat) (hlh:l<h) (hh:h≤cap):
 (Instr.slice t (.slice (some ⟨g,0,none⟩) n cap) (some (.int .i64 (l:Int))) (some (.int .i64 (h:Int))) none).run P W= .ok (.slice (some ⟨g,l*s,none⟩) (h - l) (cap - l)) W:=by
 have ht':P.underlying t=some (.slice (P.elem t)):=by simp [Program.elem,ht]
 have he:P.elem t=e:=by simp [Program.elem,ht]
 rw [run_slice_lh W t _ _ _ ht' .i64 .i64 _ _ (by omega) (by omega) (by omega),he,hz]
 have hc:¬cap=l:=by omega
 simp [Result.andThen,sliced,hc,Addr.add]
 intro h;exact h.symm
theorem zN3 {P:Program} (W:World) (t e:TypeId) (s:Nat) (ht:P.underlying t=some (.slice e)) (hz:∀w,(Go.sizeOf e).run P w= .ok s w) (g n cap l h m:Nat) (hlh:l≤h) (hhm:h≤m) (hh:m≤cap):
 (Instr.slice t (.slice (some ⟨g,0,none⟩) n cap) (some (.int .i64 (l:Int))) (some (.int .i64 (h:Int))) (some (.int .i64 (m:Int)))).run P W= .ok (.slice (some (tlA g m l s)) (h - l) (m - l)) W:=by
 have ht':P.underlying t=some (.slice (P.elem t)):=by simp [Program.elem,ht]
 have he:P.elem t=e:=by simp [Program.elem,ht]
 rw [run_slice_lhm W t _ _ _ ht' .i64 .i64 .i64 _ _ _ (by omega) (by omega) (by omega) (by omega),he,hz]
 unfold tlA
 by_cases h0:m=l
 ·simp [Result.andThen,sliced,h0]
 ·by_cases h1:l=0
  ·subst h1;simp [Result.andThen,sliced,Addr.add,h0]
  ·simp [Result.andThen,sliced,Addr.add,h0,h1]
   intro h;exact h.symm
theorem wrN (a:Nat) (h1:a≤4000):wrap64 (a:Int)=a∧IntKind.i64.wrap (a:Int)=a∧(0:Int)≤(a:Int):=⟨by unfold wrap64;omega,by rw [IntKind.wrap_i64];omega,by omega⟩
theorem zK9 {P:Program} (w:World) {ops:Array Oper} {o:Oper} {a:Act} {K:Act→World→Prop} {Q:Exit→Act→World→Prop} {E:Prop} (hgd:o.guard=none) (s x:Operand) (t:TypeId)
 (ho:o.op= .call { callee:=.builtin .append,args:=#[s,x],argTypes:=#[t,t] }) (v u:Value) (hs:a.eval s=v) (hx:a.eval x=u) {v':Value} {w':World}
 (hr:(Builtin.append_ #[t,t] o.type #[v,u]).run P w= .ok v' w') (h:K (a.put o.dst v') w'):if Region.wanted o (yielded ops a.tmps)=true then Oper.wp P o a w K Q else E:=by
 have hw:Region.wanted o (yielded ops a.tmps)=true:=by simp [Region.wanted,hgd]
 rw [if_pos hw]
 unfold Oper.wp
 simp [execOp,ho,resolve,invoke,builtin,hs,hx,hr,Result.andThen]
 exact h
theorem zN2 {P:Program} (w:World) {ops:Array Oper} {o:Oper} {a:Act} {K:Act→World→Prop} {Q:Exit→Act→World→Prop} {E:Prop} (hgd:o.guard=none) (s x:Operand) (t:TypeId)
 (ho:o.op= .call { callee:=.builtin .copy,args:=#[s,x],argTypes:=#[t,t] }) (v u:Value) (hs:a.eval s=v) (hx:a.eval x=u) {v':Value} {w':World}
 (hr:(Builtin.copy_ #[t,t] o.type #[v,u]).run P w= .ok v' w') (h:K (a.put o.dst v') w'):if Region.wanted o (yielded ops a.tmps)=true then Oper.wp P o a w K Q else E:=by
 have hw:Region.wanted o (yielded ops a.tmps)=true:=by simp [Region.wanted,hgd]
 rw [if_pos hw]
 unfold Oper.wp
 simp [execOp,ho,resolve,invoke,builtin,hs,hx,hr,Result.andThen]
 exact h
theorem zK6 {P:Program} (w:World) {ops:Array Oper} {rest:List Oper} {o:Oper} {a:Act} {Q:Exit→Act→World→Prop} (hgd:o.guard=none) (d s:Operand) (t:TypeId)
 (ho:o.op= .call { callee:=.builtin .copy,args:=#[d,s],argTypes:=#[t,t] }) (v u:Value) (hd:a.eval d=v) (hs:a.eval s=u) {v':Value} {w':World}
 (hr:(Builtin.copy_ #[t,t] o.type #[v,u]).run P w= .ok v' w') (h:wpList P ops Q rest (a.put o.dst v') w'):wpList P ops Q (o::rest) a w:=
 wpList_plain hgd fun _ hK=>by
  unfold Oper.wp
  simp [execOp,ho,resolve,invoke,builtin,hd,hs,hr,Result.andThen]
  exact hK _ _ h
theorem zL5 {w:World} {B:Nat} {e:TypeId} {s g n cap:Nat} {xs:List Value} (h:w.ownsRow B e s (.slice (some ⟨g,0,none⟩) n cap) n xs):∃cur,B≤g∧w.heap[g]?=some (.cells cur e (0,0))∧n≤cap∧cap≤maxLen∧cur.size=cap*s∧cur.toList.take (n*s)=xs:=by
 rcases h.2 with ⟨hv,_⟩|⟨g',cap',cur,hv,h1,h2,h3,h4,h5,h6⟩
 ·cases hv
 ·cases hv
  exact ⟨cur,h1,h2,h3,h4,h5,h6⟩
theorem zS0 {w:World} {e:TypeId} {g k j:Nat} {cur:Array Value} {xs:List Value} (hg:w.heap[g]?=some (.cells cur e (0,0))) (ht:cur.toList.take k=xs) (hj:j<k):w.cell? ⟨g,j,none⟩=xs[j]?:=by
 rw [←ht,List.getElem?_take_of_lt hj]
 simp [World.cell?,hg]
theorem zN5 {P:Program} (w:World) (T ty elem:TypeId) (A:Option Addr) (c:Nat) (hu:P.underlying T=some (.slice elem)):
 (Builtin.clear_ #[T] ty #[.slice A 0 c]).run P w= .ok (.tuple #[]) w:=by
 cases A<;> simp [Builtin.clear_,run_underlying hu]
theorem zY9 {s i n:Nat} {M:List (List Value)} {r cur:List Value} (hM:RowsS s M) (hr:r.length=s) (hn:M.length=n) (hi:i<n) (ht:cur.take (n*s)=M.flatten) (hl:n*s≤cur.length):
 (cur.take (i*s)++r++cur.drop (i*s+r.length)).take (n*s)=(M.set i r).flatten:=by
 have hp:i*s+s≤n*s:=by rw [←Nat.succ_mul];exact Nat.mul_le_mul_right _ hi
 have e1:M.set i r=M.take i++r::M.drop (i+1):=by rw [List.set_eq_take_append_cons_drop,if_pos (by omega)]
 rw [e1,List.flatten_append,List.flatten_cons,zP2 i hM,zP3 (i+1) hM,←ht,Nat.succ_mul,hr]
 generalize i*s=p at*
 generalize n*s=q at*
 have l1:(cur.take p).length=p:=by rw [List.length_take];omega
 rw [List.take_take,Nat.min_eq_left (by omega),List.append_assoc,List.take_append,List.take_of_length_le (l:=List.take p cur) (by omega),l1,List.take_append,List.take_of_length_le (l:=r) (by omega),hr,List.drop_take,Nat.sub_sub]
theorem zW2:∀w,(Go.sizeOf 30).run Tryz.prog w= .ok 9 w:=fun w=>by kernel_rfl
theorem ninfoS:(Tryz.prog.info? 30).map (·.size)=some 9:=by kernel_rfl
theorem ninfo:(Tryz.prog.info? 30).map (fun i=>(i.zero,i.size,i.bytes))=some (some (.agg #[.string ⟨#[]⟩,.int .i64 0,.int .i64 0,.int .i64 0,.int .i64 0,.int .i64 0,.slice none 0 0,.bool false,.int .i64 0]),9,96):=by kernel_rfl
theorem napp0 {w:World} {base:Nat} {v:Value} (hown:w.ownsRow base 30 9 v 0 []) (A:Option Addr) (c:Nat) (ty:TypeId):(Builtin.append_ #[49,49] ty #[v,.slice A 0 c]).run Tryz.prog w= .ok v w:=by
 obtain ⟨i,hi,hz,hs,hb⟩:=zB2 ninfo
 rcases hown.2 with ⟨rfl,_⟩|⟨g,cap,cur,rfl,_,_,_,_,_⟩
 ·cases A<;> simp [Builtin.append_,run_underlying Tryz.underlying49,sizeOf,typeInfo,hi,Builtin.lenOf,Builtin.firstCells,loadCells,loadCellsFrom,storeCells]
 ·cases A<;> simp [Builtin.append_,run_underlying Tryz.underlying49,sizeOf,typeInfo,hi,Builtin.lenOf,Builtin.firstCells,loadCells,loadCellsFrom,storeCells]
set_option maxRecDepth 100000 in
set_option maxHeartbeats 4000000 in
theorem zT9 (A:Option Addr) (n c:Nat) (M:List (List Value)) (hM:RowsS 9 M) (hn:M.length=n) (h2:n≤2000) (w:World) (hA:n=0∨∃b off,A=some ⟨b,off,none⟩∧b<w.heap.size∧∀j u,M.flatten[j]?=some u→w.cell? ⟨b,off+j,none⟩=some u):
 Calls Tryz.prog 116 #[.slice A n c] w fun e w'=>∃v,e= .returned v∧w'.ownsRow w.heap.size 30 9 v n M.flatten∧Below w.heap.size w w':=by
 have HM:=LH hM
 have HN:=LH hn
 have H2:=LH h2
 have HO0:Hid ((w.alloc (.cells #[] 30)).ownsRow w.heap.size 30 9 (.slice (some ⟨w.heap.size,0,none⟩) 0 0) 0 []):=World.ownsRow_lit w #[] 0 (nl _) (by unfold maxLen;omega) rfl
 have HB0:Hid (Below w.heap.size w (w.alloc (.cells #[] 30))):=(bR _ w).alloc (nl _) _
 cases A with
 |none=>
  have h0:n=0:=by
   rcases hA with h |⟨b,off,h,_⟩
   ·exact h
   ·cases h
  subst h0
  have hf:M=[]:=List.length_eq_zero_iff.1 hn
  subst hf
  have hnil:∀w,(binOp .eql 49 (.slice none 0 c) (.slice none 0 0)).run Tryz.prog w= .ok (.bool true) w:=fun w=>by kernel_rfl
  clear hM hn h2 hA HM HN
  go_enter Tryz.func116,Tryz.ntmps116
  go_wp2_with fail
  go_ret
  exact ⟨_,rfl,World.ownsRow_nil _ _ _ _,bel⟩
 |some ad=>
  have hnil:∀w,(binOp .eql 49 (.slice (some ad) n c) (.slice none 0 0)).run Tryz.prog w= .ok (.bool false) w:=fun w=>by kernel_rfl
  by_cases h0:n=0
  ·subst h0
   have hf:M=[]:=List.length_eq_zero_iff.1 hn
   subst hf
   have hr:=fun ty=>napp0 HO0.out (some ad) c ty
   have hr2:=LH hr
   clear hM hn h2 hA HM HN hr
   go_enter Tryz.func116,Tryz.ntmps116
   go_wp2_with (at_builtin;refine Lib.wpList_append_run _ rfl _ _ _ _ rfl _ _ rfl rfl _ _ (hr2.out _) ?_)
   go_ret
   exact ⟨_,rfl,HO0.out,HB0.out⟩
  ·obtain ⟨b,off,hae,hb,hC⟩:∃b off,some ad=some (⟨b,off,none⟩:Addr)∧b<w.heap.size∧∀j u,M.flatten[j]?=some u→w.cell? ⟨b,off+j,none⟩=some u:=by
        rcases hA with h |h
        ·exact absurd h h0
        ·exact h
   cases hae
   obtain ⟨SI0,si0,sz0,sz1,sz2⟩:=zB2 ninfo
   have SI1:=LH si0
   have SI2:=LH sz0
   have SI3:=LH sz1
   have SI4:=LH sz2
   have HNW:Hid (∀j u,M.flatten[j]?=some u→(w.alloc (.cells #[] 30)).cell? ((⟨b,off,none⟩:Addr).add j)=some u):=fun j u hj=>by
        rw [kaddr]
        exact (HB0.out.cell (p:=⟨b,off+j,none⟩) hb).trans (hC j u hj)
   have HLL:Hid (M.flatten.length=n*9):=by show _=_;rw [hM.len,hn]
   clear si0 sz0 sz1 sz2 hM hn h2 hA hC hb h0
   go_enter Tryz.func116,Tryz.ntmps116
   go_wp2_with (first
        |(at_builtin;refine wpList_append_own_at _ ?sca (.tmp 5) (.tmp 6) 49 ?scb (w.heap.size) 30 SI0 (.agg #[.string ⟨#[]⟩,.int .i64 0,.int .i64 0,.int .i64 0,.int .i64 0,.int .i64 0,.slice none 0 0,.bool false,.int .i64 0]) 9 96 Tryz.underlying49 SI1.out SI2.out SI3.out SI4.out ?scc ?scd (.slice (some ⟨w.heap.size,0,none⟩) 0 0) (0) ([]) ?sce (HO0.out) (⟨b,off,none⟩) (n) (c) (M.flatten) ?scg (HLL.out) (HNW.out) (HM.out.one) (by have:=H2.out;unfold maxLen;omega) (by have:=H2.out;omega) (HB0.out.size) ?sch
          case sca=>exact rfl
          case scb=>exact rfl
          case scc=>exact rfl
          case scd=>decide
          case sce=>exact rfl
          case scg=>exact rfl
          intro v2 w4 hown2 hgrow2 hnil2 hat2
          rw [Nat.zero_add,List.nil_append] at hown2
          have HM2:=LH (And.intro hown2 (zK0 HO0.out HB0.out hgrow2))
          clear hown2 hgrow2 hnil2 hat2))
   go_ret
   exact ⟨v2,rfl,HM2.out.1,HM2.out.2⟩
set_option maxRecDepth 100000 in
set_option maxHeartbeats 4000000 in
theorem ndelete (B g n cap i i1:Nat) (M:List (List Value)) (hM:RowsS 9 M) (hn:M.length=n) (h2:n≤2000) (hi:i<n) (hi1:i1=i+1) (w:World) (hown:w.ownsRow B 30 9 (.slice (some ⟨g,0,none⟩) n cap) n M.flatten):
 Calls Tryz.prog 122 #[.slice (some ⟨g,0,none⟩) n cap,.int .i64 i,.int .i64 i1] w fun e w'=>e= .returned (.slice (some ⟨g,0,none⟩) (n - 1) cap)∧w'.ownsRow B 30 9 (.slice (some ⟨g,0,none⟩) (n - 1) cap) (n - 1) (M.eraseIdx i).flatten∧w.grownBy w' (some g):=by
 obtain ⟨cur,hB,hg,hnc,hcm,hcs,hct⟩:=zL5 hown
 have hfl:M.flatten.length=n*9:=by rw [hM.len,hn]
 obtain ⟨m,hm⟩:∃z,z=n - i1:=⟨_,rfl⟩
 obtain ⟨n1,hn1⟩:∃z,z=n - 1:=⟨_,rfl⟩
 have him:i+m=n1:=by omega
 obtain ⟨SI0,si0,sz0,sz1,sz2⟩:=zB2 ninfo
 -- the parts
 have hs0:∀W,(Instr.slice 49 (.slice (some ⟨g,0,none⟩) n cap) (some (.int .i64 (i:Int))) (some (.int .i64 (i1:Int))) (some (.int .i64 (n:Int)))).run Tryz.prog W= .ok (.slice (some (tlA g n i 9)) (i1 - i) (n - i)) W:=fun W=>zN3 W 49 30 9 Tryz.underlying49 zW2 g n cap i i1 n (by omega) (by omega) (by omega)
 have hs1:∀W,(Instr.slice 49 (.slice (some ⟨g,0,none⟩) n cap) (some (.int .i64 (i1:Int))) none none).run Tryz.prog W= .ok (.slice (some (tlA g cap i1 9)) m (cap - i1)) W:=fun W=>by rw [hm];exact zD8 W 49 30 9 Tryz.underlying49 zW2 g n cap i1 (by omega) (by omega)
 have hs2:∀W,(Instr.slice 49 (.slice (some ⟨g,0,none⟩) n cap) none (some (.int .i64 (i:Int))) none).run Tryz.prog W= .ok (.slice (some ⟨g,0,none⟩) i cap) W:=fun W=>by
  have:=run_slice_h (P:=Tryz.prog) W 49 (some ⟨g,0,none⟩) n cap (by kernel_rfl) .i64 (i:Int) (by omega) (by omega)
  rw [this,show Tryz.prog.elem 49=30 by kernel_rfl,zW2]
  simp [Result.andThen,sliced,Addr.add]
 have hs3:∀W,(Instr.slice 49 (.slice (some ⟨g,0,none⟩) n1 cap) (some (.int .i64 (n1:Int))) (some (.int .i64 (n:Int))) none).run Tryz.prog W= .ok (.slice (some ⟨g,n1*9,none⟩) 1 (cap - n1)) W:=fun W=>by
  have:=zH6 W 49 30 9 Tryz.underlying49 zW2 g n1 cap n1 n (by omega) (by omega)
  rwa [show n - n1=1 by omega] at this
 have hd:(M.drop i1).length=m:=by rw [List.length_drop,hn];omega
 have hRd:RowsS 9 (M.drop i1):=hM.sub fun r hr=>List.mem_of_mem_drop hr
 have hdl:(M.drop i1).flatten.length=m*9:=by rw [hRd.len,hd]
 have hnews:∀j u,(M.drop i1).flatten[j]?=some u→w.drew.cell? ((tlA g cap i1 9).add j)=some u:=fun j u hj=>by
  have hjl:j<m*9:=by rw [←hdl];exact (List.getElem?_eq_some_iff.1 hj).1
  have hm0:0<m:=by
   rcases Nat.eq_zero_or_pos m with h |h
   ·rw [h] at hjl;omega
   ·exact h
  rw [zW6 (by omega),zU6]
  rw [zP3 i1 hM,List.getElem?_drop] at hj
  show w.cell? ⟨g,i1*9+j,none⟩=some u
  rw [zS0 hg hct (by omega)]
  exact hj
 obtain ⟨cur1,hcur1⟩:∃c,c=(cur.toList.take (i*9)++(M.drop i1).flatten++cur.toList.drop (i*9+(M.drop i1).flatten.length)).toArray:=⟨_,rfl⟩
 have hz1:cur1.size=cap*9:=by
  rw [hcur1,List.size_toArray,List.length_append,List.length_append,List.length_take,List.length_drop,Array.length_toList,hcs,hdl];omega
 obtain ⟨W1,hW1⟩:∃W,W=w.drew.setRow g cur1:=⟨_,rfl⟩
 have hg1:W1.heap[g]?=some (.cells cur1 30 (0,0)):=by rw [hW1];exact setRow_heap w.drew g cur cur1 30 (0,0) hg
 have hr1:∀ty,(Builtin.append_ #[49,49] ty #[.slice (some ⟨g,0,none⟩) i cap,.slice (some (tlA g cap i1 9)) m (cap - i1)]).run Tryz.prog w.drew= .ok (.slice (some ⟨g,0,none⟩) n1 cap) W1:=fun ty=>by
  have:=run_append_room (P:=Tryz.prog) w.drew 49 ty 30 SI0 Tryz.underlying49 si0 g i cap cur hg (tlA g cap i1 9) m (cap - i1) (M.drop i1).flatten (by rw [hdl,sz1]) hnews hRd.one (by omega) (by rw [sz1,hdl,hcs];omega)
  rw [this,sz1,hW1,hcur1,him]
 obtain ⟨zs,hzs⟩:∃z,z=(Builtin.zeroCells (Value.cells (.agg #[.string ⟨#[]⟩,.int .i64 0,.int .i64 0,.int .i64 0,.int .i64 0,.int .i64 0,.slice none 0 0,.bool false,.int .i64 0])) 1).toList:=⟨_,rfl⟩
 have hzl:zs.length=9:=by rw [hzs];simp [Builtin.zeroCells,Value.cells]
 have hz0:∀u∈zs,u.oneCell'=true:=by
  have:zs.all (fun u=>u.oneCell')=true:=by rw [hzs];kernel_rfl
  exact List.all_eq_true.1 this
 obtain ⟨cur2,hcur2⟩:∃c,c=(cur1.toList.take (n1*9)++zs++cur1.toList.drop (n1*9+zs.length)).toArray:=⟨_,rfl⟩
 have hr3:∀ty,(Builtin.clear_ #[49] ty #[.slice (some ⟨g,n1*9,none⟩) 1 (cap - n1)]).run Tryz.prog W1= .ok (.tuple #[]) (W1.setRow g cur2):=fun ty=>by
  have:=zN4 (P:=Tryz.prog) W1 49 ty 30 SI0 (.agg #[.string ⟨#[]⟩,.int .i64 0,.int .i64 0,.int .i64 0,.int .i64 0,.int .i64 0,.slice none 0 0,.bool false,.int .i64 0]) g (n1*9) 1 (cap - n1) cur1 30 Tryz.underlying49 si0 sz0 hg1 (by omega) (by rw [←hzs,hzl,hz1];omega) (by rw [←hzs];exact hz0)
  rw [this,←hzs,hcur2]
 have hz2:cur2.size=cap*9:=by
  rw [hcur2,List.size_toArray,List.length_append,List.length_append,List.length_take,List.length_drop,Array.length_toList,hz1,hzl];omega
 have ht2:cur2.toList.take (n1*9)=(M.eraseIdx i).flatten:=by
  have e1:cur2.toList.take (n1*9)=cur1.toList.take (n1*9):=by
   rw [hcur2]
   show (cur1.toList.take (n1*9)++zs++cur1.toList.drop (n1*9+zs.length)).take (n1*9)=_
   rw [List.append_assoc,List.take_append_of_le_length (by rw [List.length_take,Array.length_toList,hz1];omega),List.take_take,Nat.min_self]
  have e2:cur1.toList.take (n1*9)=cur.toList.take (i*9)++(M.drop i1).flatten:=by
   rw [hcur1]
   show (cur.toList.take (i*9)++(M.drop i1).flatten++cur.toList.drop (i*9+(M.drop i1).flatten.length)).take (n1*9)=_
   rw [List.take_append_of_le_length (by rw [List.length_append,List.length_take,Array.length_toList,hcs,hdl];omega),List.take_of_length_le (by rw [List.length_append,List.length_take,Array.length_toList,hcs,hdl];omega)]
  rw [e1,e2,List.eraseIdx_eq_take_drop_succ,List.flatten_append,←hi1,zP2 i hM,←hct,List.take_take,Nat.min_eq_left (Nat.mul_le_mul_right _ (by omega))]
 have hlx:(M.eraseIdx i).flatten.length=n1*9:=by
  rw [←ht2,List.length_take,Array.length_toList,hz2];omega
 have HE:Hid ((W1.setRow g cur2).ownsRow B 30 9 (.slice (some ⟨g,0,none⟩) n1 cap) n1 (M.eraseIdx i).flatten∧w.grownBy (W1.setRow g cur2) (some g)):=by
  rw [hW1,setRow_setRow]
  have:=zE4 (w:=w.drew) (n:=n) (n':=n1) hB hg (by omega) hcm hz2 ht2 hlx
  exact ⟨this.1,(show w.grownBy w.drew (some g) from ⟨rfl,rfl,rfl,nl _,fun _ _ _=>rfl⟩).trans this.2⟩
 have T0:((i:Int)==(i1:Int))=false:=by simp;omega
 have hr1':=LH hr1
 clear hz0 hown hg hct hcs hfl hnews hdl hRd hd hW1 hg1 hr1 hz1 hcur1 hzs hzl hcur2 hz2 ht2 hlx hM hn h2 hcm hB si0 sz0 sz1 sz2 him hm
 rw [←hn1]
 clear hn1 hi hi1 hnc
 go_enter Tryz.func122,Tryz.ntmps122
 go_wp2_with fail
 go_region_held3 (fun W=>True) (exact trivial) (first
  |(refine zK9 _ (by rfl) _ _ 49 (by rfl) _ _ (by rfl) (by rfl) (hr1'.out _) ?_))
 go_wp2_with fail
 go_ret
 exact ⟨rfl,HE.out.1,HE.out.2⟩
set_option maxRecDepth 100000 in
set_option maxHeartbeats 4000000 in
theorem nreplaceK (k:Nat) (hk:k=1) (B g n cap i i1 b:Nat) (M:List (List Value)) (r:List Value) (hM:RowsS 9 M) (hr:r.length=9) (hr1:∀u∈r,u.oneCell'=true) (hn:M.length=n) (h2:n≤2000) (hi:i<n) (hi1:i1=i+1) (w:World) (hown:w.ownsRow B 30 9 (.slice (some ⟨g,0,none⟩) n cap) n M.flatten)
 (hv:∀j u,r[j]?=some u→w.cell? ⟨b,j,none⟩=some u):
 Calls Tryz.prog 121 #[.slice (some ⟨g,0,none⟩) n cap,.int .i64 i,.int .i64 i1,.slice (some ⟨b,0,none⟩) k k] w fun e w'=>e= .returned (.slice (some ⟨g,0,none⟩) n cap)∧w'.ownsRow B 30 9 (.slice (some ⟨g,0,none⟩) n cap) n (M.set i r).flatten∧w.grownBy w' (some g):=by
 obtain ⟨cur,hB,hg,hnc,hcm,hcs,hct⟩:=zL5 hown
 obtain ⟨SI0,si0,sz0,sz1,sz2⟩:=zB2 ninfo
 have hp:i*9+9≤n*9:=by omega
 have hle1:i1≤4000:=by omega
 have hle2:n≤4000:=by omega
 have hle3:i1≤n:=by omega
 have HU1:=LH (wrN i1 hle1)
 have HU2:=LH (wrN n hle2)
 have B2:(i1:Int)≤(n:Int):=Int.ofNat_le.2 hle3
 clear hle1 hle2 hle3
 have hv0:∀j u,r[j]?=some u→w.cell? ((⟨b,0,none⟩:Addr).add j)=some u:=fun j u hj=>by rw [zU6,Nat.zero_add];exact hv j u hj
 have hs0:∀W,(Instr.slice 49 (.slice (some ⟨g,0,none⟩) n cap) (some (.int .i64 (i:Int))) (some (.int .i64 (i1:Int))) none).run Tryz.prog W= .ok (.slice (some ⟨g,i*9,none⟩) (i1 - i) (cap - i)) W:=fun W=>zH6 W 49 30 9 Tryz.underlying49 zW2 g n cap i i1 (by omega) (by omega)
 have hs2:∀W,(Instr.slice 49 (.slice (some ⟨g,0,none⟩) n cap) none (some (.int .i64 (i:Int))) none).run Tryz.prog W= .ok (.slice (some ⟨g,0,none⟩) i cap) W:=fun W=>by
  have:=run_slice_h (P:=Tryz.prog) W 49 (some ⟨g,0,none⟩) n cap (by kernel_rfl) .i64 (i:Int) (by omega) (by omega)
  rw [this,show Tryz.prog.elem 49=30 by kernel_rfl,zW2]
  simp [Result.andThen,sliced,Addr.add]
 obtain ⟨cur1,hcur1⟩:∃c,c=(cur.toList.take (i*9)++r++cur.toList.drop (i*9+r.length)).toArray:=⟨_,rfl⟩
 have hz1:cur1.size=cap*9:=by
  rw [hcur1,List.size_toArray,List.length_append,List.length_append,List.length_take,List.length_drop,Array.length_toList,hcs,hr];omega
 have ht1:cur1.toList.take (n*9)=(M.set i r).flatten:=by
  rw [hcur1]
  exact zY9 hM hr hn hi hct (by rw [Array.length_toList,hcs];omega)
 have hlx:(M.set i r).flatten.length=n*9:=by
  rw [←ht1,List.length_take,Array.length_toList,hz1];omega
 have T0:((i:Int)==(i1:Int))=false:=by simp;omega
 by_cases hend:i1=n
 · -- at the end
   have HE:Hid ((w.setRow g cur1).ownsRow B 30 9 (.slice (some ⟨g,0,none⟩) n cap) n (M.set i r).flatten∧w.grownBy (w.setRow g cur1) (some g)):=zE4 (n:=n) hB hg hnc hcm hz1 ht1 hlx
   have hr3:∀ty,(Builtin.append_ #[49,49] ty #[.slice (some ⟨g,0,none⟩) i cap,.slice (some ⟨b,0,none⟩) k k]).run Tryz.prog w= .ok (.slice (some ⟨g,0,none⟩) n cap) (w.setRow g cur1):=fun ty=>by
    have:=run_append_room (P:=Tryz.prog) w 49 ty 30 SI0 Tryz.underlying49 si0 g i cap cur hg ⟨b,0,none⟩ k k r (by rw [hr,sz1,hk]) hv0 hr1 (by omega) (by rw [sz1,hr,hcs];omega)
    rw [this,sz1,hcur1,show i+k=n by omega]
   have T1:((i1:Int)==(n:Int))=true:=by simp;omega
   have hr3':=LH hr3
   clear hk hown hg hB hnc hcm hcs hct si0 sz0 sz1 sz2 hv hv0 hcur1 hz1 ht1 hlx hM hr hr1 hn h2 hi hi1 hend hp hr3
   obtain ⟨U1,V2,B1⟩:=HU1.out
   obtain ⟨U2,V3,B3⟩:=HU2.out
   go_enter Tryz.func121,Tryz.ntmps121
   go_wp2_with (at_builtin;refine Lib.wpList_append_run _ rfl _ _ _ _ rfl _ _ rfl rfl _ _ (hr3'.out _) ?_)
   go_ret
   exact ⟨rfl,HE.out.1,HE.out.2⟩
 ·obtain ⟨m,hm⟩:∃z,z=n - i1:=⟨_,rfl⟩
  have hs1:∀W,(Instr.slice 49 (.slice (some ⟨g,0,none⟩) n cap) (some (.int .i64 (i1:Int))) none none).run Tryz.prog W= .ok (.slice (some ⟨g,i1*9,none⟩) m (cap - i1)) W:=fun W=>by
   rw [hm,←zW6 (g:=g) (show¬cap=i1 by omega)];exact zD8 W 49 30 9 Tryz.underlying49 zW2 g n cap i1 (by omega) (by omega)
  have hs5:∀W,(Instr.slice 49 (.slice (some ⟨g,0,none⟩) n cap) none (some (.int .i64 (n:Int))) none).run Tryz.prog W= .ok (.slice (some ⟨g,0,none⟩) n cap) W:=fun W=>by
   have:=run_slice_h (P:=Tryz.prog) W 49 (some ⟨g,0,none⟩) n cap (by kernel_rfl) .i64 (n:Int) (by omega) (by omega)
   rw [this,show Tryz.prog.elem 49=30 by kernel_rfl,zW2]
   simp [Result.andThen,sliced,Addr.add]
  have hs3:∀W,(Instr.slice 49 (.slice (some ⟨g,0,none⟩) n cap) (some (.int .i64 (i:Int))) none none).run Tryz.prog W= .ok (.slice (some ⟨g,i*9,none⟩) (n - i) (cap - i)) W:=fun W=>by
   rw [←zW6 (g:=g) (show¬cap=i by omega)];exact zD8 W 49 30 9 Tryz.underlying49 zW2 g n cap i (by omega) (by omega)
  have hs4:∀W,(Instr.slice 49 (.slice (some ⟨g,0,none⟩) n cap) (some (.int .i64 (n:Int))) none none).run Tryz.prog W= .ok (.slice (some (tlA g cap n 9)) 0 (cap - n)) W:=fun W=>by
   have:=zD8 W 49 30 9 Tryz.underlying49 zW2 g n cap n (by omega) (by omega)
   rwa [Nat.sub_self] at this
  have hcl:∀W ty,(Builtin.clear_ #[49] ty #[.slice (some (tlA g cap n 9)) 0 (cap - n)]).run Tryz.prog W= .ok (.tuple #[]) W:=fun W ty=>zN5 W 49 ty 30 _ _ Tryz.underlying49
  obtain ⟨W1,hW1⟩:∃W:Nat→World,∀q,W q=(w.drewN q).setRow g cur1:=⟨_,fun _=>rfl⟩
  have hg1:∀q,(W1 q).heap[g]?=some (.cells cur1 30 (0,0)):=fun q=>by rw [hW1];exact setRow_heap (w.drewN q) g cur cur1 30 (0,0) hg
  have hr3:∀q ty,(Builtin.copy_ #[49,49] ty #[.slice (some ⟨g,i*9,none⟩) (n - i) (cap - i),.slice (some ⟨b,0,none⟩) k k]).run Tryz.prog (w.drewN q)= .ok (.int .i64 1) (W1 q):=fun q ty=>by
   have:=zH7 (P:=Tryz.prog) (w.drewN q) 49 49 ty 30 g (i*9) (n - i) (cap - i) ⟨b,0,none⟩ k k cur 30 r 9 Tryz.underlying49 ninfoS hg (by rw [hr,show Nat.min k (n - i)=1 from hk ▸ Nat.min_eq_left (by omega)]) hv0 (by rw [hr,hcs];omega) hr1
   rw [this,show Nat.min k (n - i)=1 from hk ▸ Nat.min_eq_left (by omega),hW1,hcur1]
   rfl
  obtain ⟨cs,hcsd⟩:∃c,c=(cur1.toList.take (n*9)).drop (i1*9):=⟨_,rfl⟩
  have hcl2:cs.length=m*9:=by rw [hcsd,List.length_drop,List.length_take,Array.length_toList,hz1];omega
  have hcs1:∀u∈cs,u.oneCell'=true:=fun u hu=>by
   rw [hcsd,ht1] at hu
   refine RowsS.one (s:=9) (M:=M.set i r) ?_ u (List.mem_of_mem_drop hu)
   intro x hx
   rcases List.mem_or_eq_of_mem_set hx with h |h
   ·exact hM x h
   ·rw [h];exact ⟨hr,hr1⟩
  have hr4:∀q ty,(Builtin.copy_ #[49,49] ty #[.slice (some ⟨g,i1*9,none⟩) m (cap - i1),.slice (some ⟨g,i1*9,none⟩) m (cap - i1)]).run Tryz.prog (W1 q).drew= .ok (.int .i64 m) (W1 q).drew:=fun q ty=>by
   have:=zH7 (P:=Tryz.prog) (W1 q).drew 49 49 ty 30 g (i1*9) m (cap - i1) ⟨g,i1*9,none⟩ m (cap - i1) cur1 30 cs 9 Tryz.underlying49 ninfoS (hg1 q) (by rw [hcl2,show Nat.min m m=m from Nat.min_self m]) (fun j u hj=>by
        have hjl:j<m*9:=by rw [←hcl2];exact (List.getElem?_eq_some_iff.1 hj).1
        rw [zU6]
        show (W1 q).cell? ⟨g,i1*9+j,none⟩=some u
        rw [zS0 (k:=n*9) (hg1 q) rfl (by omega),←hj,hcsd,List.getElem?_drop]) (by rw [hcl2,hz1];omega) hcs1
   rw [this,show Nat.min m m=m from Nat.min_self m]
   have e:cur1.toList.take (i1*9)++cs++cur1.toList.drop (i1*9+cs.length)=cur1.toList:=by
        rw [hcsd,List.drop_take,←List.take_add,List.length_take,List.length_drop,Array.length_toList,hz1,show i1*9+min (n*9 - i1*9) (cap*9 - i1*9)=i1*9+(n*9 - i1*9) by omega,List.take_append_drop]
   rw [e,Array.toArray_toList,setRow_self (W1 q).drew g cur1 30 (0,0) (hg1 q)]
   rfl
  have HE:∀q,Hid ((W1 q).drew.ownsRow B 30 9 (.slice (some ⟨g,0,none⟩) n cap) n (M.set i r).flatten∧w.grownBy (W1 q).drew (some g)):=fun q=>by
   have:=zE4 (w:=w.drewN q) (n:=n) hB hg hnc hcm hz1 ht1 hlx
   rw [hW1]
   exact ⟨this.1,((show w.grownBy (w.drewN q) (some g) from ⟨rfl,rfl,rfl,nl _,fun _ _ _=>rfl⟩).trans this.2).trans ⟨rfl,rfl,rfl,nl _,fun _ _ _=>rfl⟩⟩
  have T1:((i1:Int)==(n:Int))=false:=by simp;omega
  have T2:((i:Int)+(k:Int):Int)=(i1:Int):=by omega
  have T3:((i1:Int)+(m:Int):Int)=(n:Int):=by omega
  have T4:decide ((n:Int) > (cap:Int))=false:=dF (by omega)
  have T5:decide (cap<n)=false:=dF (by omega)
  obtain ⟨U1,V2,B1⟩:=HU1.out
  obtain ⟨U2,V3,B3⟩:=HU2.out
  have hs1b:∀W,(Instr.slice 49 (.slice (some ⟨g,0,none⟩) n cap) (some (.int .i64 (wrap64 ((i:Int)+(k:Int))))) none none).run Tryz.prog W= .ok (.slice (some ⟨g,i1*9,none⟩) m (cap - i1)) W:=fun W=>by rw [T2,U1];exact hs1 W
  have hs1c:∀W,(Instr.slice 49 (.slice (some ⟨g,0,none⟩) n cap) (some (.int .i64 (wrap64 (i1:Int)))) none none).run Tryz.prog W= .ok (.slice (some ⟨g,i1*9,none⟩) m (cap - i1)) W:=fun W=>by rw [U1];exact hs1 W
  have V1:IntKind.i64.wrap ((i:Int)+(k:Int))=i1:=by rw [T2,V2]
  have hr4':=LH hr4
  have hr3':=LH hr3
  clear hk hown hg hB hnc hcm hcs hct si0 sz0 sz1 sz2 hv hv0 hcur1 hz1 ht1 hlx hM hr hr1 hn h2 hi hi1 hend hp hm hW1 hg1 hcsd hcl2 hcs1 hr4 hr3
  go_enter Tryz.func121,Tryz.ntmps121
  go_wp2_with fail
  go_quiet (fail)
  go_wp2_with (refine zK6 _ rfl _ _ _ rfl _ _ rfl rfl (hr3'.out _ _) ?_)
  go_region_held3 (fun W=>True) (exact trivial) (first
   |(refine zN2 _ (by rfl) _ _ 49 (by rfl) _ _ (by rfl) (by rfl) (hr4'.out _ _) ?_))
  go_wp2_with fail
  go_ret
  exact ⟨rfl,(HE _).out.1,(HE _).out.2⟩
theorem nreplace (B g n cap i i1 b:Nat) (M:List (List Value)) (r:List Value) (hM:RowsS 9 M) (hr:r.length=9) (hr1:∀u∈r,u.oneCell'=true) (hn:M.length=n) (h2:n≤2000) (hi:i<n) (hi1:i1=i+1) (w:World) (hown:w.ownsRow B 30 9 (.slice (some ⟨g,0,none⟩) n cap) n M.flatten)
 (hv:∀j u,r[j]?=some u→w.cell? ⟨b,j,none⟩=some u):
 Calls Tryz.prog 121 #[.slice (some ⟨g,0,none⟩) n cap,.int .i64 i,.int .i64 i1,.slice (some ⟨b,0,none⟩) 1 1] w fun e w'=>e= .returned (.slice (some ⟨g,0,none⟩) n cap)∧w'.ownsRow B 30 9 (.slice (some ⟨g,0,none⟩) n cap) n (M.set i r).flatten∧w.grownBy w' (some g):=
 nreplaceK 1 rfl B g n cap i i1 b M r hM hr hr1 hn h2 hi hi1 w hown hv
theorem zW3:∀w,(Go.sizeOf 32).run Tryz.prog w= .ok 11 w:=fun w=>by kernel_rfl
theorem linfoS:(Tryz.prog.info? 32).map (·.size)=some 11:=by kernel_rfl
theorem linfo:(Tryz.prog.info? 32).map (fun i=>(i.zero,i.size,i.bytes))=some (some (.agg #[.string ⟨#[]⟩,.string ⟨#[]⟩,.string ⟨#[]⟩,.int .i64 0,.int .i64 0,.int .i64 0,.int .i64 0,.string ⟨#[]⟩,.int .i64 0,.int .i64 0,.slice none 0 0]),11,136):=by kernel_rfl
theorem lapp0 {w:World} {base:Nat} {v:Value} (hown:w.ownsRow base 32 11 v 0 []) (A:Option Addr) (c:Nat) (ty:TypeId):(Builtin.append_ #[50,50] ty #[v,.slice A 0 c]).run Tryz.prog w= .ok v w:=by
 obtain ⟨i,hi,hz,hs,hb⟩:=zB2 linfo
 rcases hown.2 with ⟨rfl,_⟩|⟨g,cap,cur,rfl,_,_,_,_,_⟩
 ·cases A<;> simp [Builtin.append_,run_underlying Tryz.underlying50,sizeOf,typeInfo,hi,Builtin.lenOf,Builtin.firstCells,loadCells,loadCellsFrom,storeCells]
 ·cases A<;> simp [Builtin.append_,run_underlying Tryz.underlying50,sizeOf,typeInfo,hi,Builtin.lenOf,Builtin.firstCells,loadCells,loadCellsFrom,storeCells]
set_option maxRecDepth 100000 in
set_option maxHeartbeats 4000000 in
theorem zU4 (A:Option Addr) (n c:Nat) (M:List (List Value)) (hM:RowsS 11 M) (hn:M.length=n) (h2:n≤2000) (w:World) (hA:n=0∨∃b off,A=some ⟨b,off,none⟩∧b<w.heap.size∧∀j u,M.flatten[j]?=some u→w.cell? ⟨b,off+j,none⟩=some u):
 Calls Tryz.prog 117 #[.slice A n c] w fun e w'=>∃v,e= .returned v∧w'.ownsRow w.heap.size 32 11 v n M.flatten∧Below w.heap.size w w':=by
 have HM:=LH hM
 have HN:=LH hn
 have H2:=LH h2
 have HO0:Hid ((w.alloc (.cells #[] 32)).ownsRow w.heap.size 32 11 (.slice (some ⟨w.heap.size,0,none⟩) 0 0) 0 []):=World.ownsRow_lit w #[] 0 (nl _) (by unfold maxLen;omega) rfl
 have HB0:Hid (Below w.heap.size w (w.alloc (.cells #[] 32))):=(bR _ w).alloc (nl _) _
 cases A with
 |none=>
  have h0:n=0:=by
   rcases hA with h |⟨b,off,h,_⟩
   ·exact h
   ·cases h
  subst h0
  have hf:M=[]:=List.length_eq_zero_iff.1 hn
  subst hf
  have hnil:∀w,(binOp .eql 50 (.slice none 0 c) (.slice none 0 0)).run Tryz.prog w= .ok (.bool true) w:=fun w=>by kernel_rfl
  clear hM hn h2 hA HM HN
  go_enter Tryz.func117,Tryz.ntmps117
  go_wp2_with fail
  go_ret
  exact ⟨_,rfl,World.ownsRow_nil _ _ _ _,bel⟩
 |some ad=>
  have hnil:∀w,(binOp .eql 50 (.slice (some ad) n c) (.slice none 0 0)).run Tryz.prog w= .ok (.bool false) w:=fun w=>by kernel_rfl
  by_cases h0:n=0
  ·subst h0
   have hf:M=[]:=List.length_eq_zero_iff.1 hn
   subst hf
   have hr:=fun ty=>lapp0 HO0.out (some ad) c ty
   have hr2:=LH hr
   clear hM hn h2 hA HM HN hr
   go_enter Tryz.func117,Tryz.ntmps117
   go_wp2_with (at_builtin;refine Lib.wpList_append_run _ rfl _ _ _ _ rfl _ _ rfl rfl _ _ (hr2.out _) ?_)
   go_ret
   exact ⟨_,rfl,HO0.out,HB0.out⟩
  ·obtain ⟨b,off,hae,hb,hC⟩:∃b off,some ad=some (⟨b,off,none⟩:Addr)∧b<w.heap.size∧∀j u,M.flatten[j]?=some u→w.cell? ⟨b,off+j,none⟩=some u:=by
        rcases hA with h |h
        ·exact absurd h h0
        ·exact h
   cases hae
   obtain ⟨SI0,si0,sz0,sz1,sz2⟩:=zB2 linfo
   have SI1:=LH si0
   have SI2:=LH sz0
   have SI3:=LH sz1
   have SI4:=LH sz2
   have HNW:Hid (∀j u,M.flatten[j]?=some u→(w.alloc (.cells #[] 32)).cell? ((⟨b,off,none⟩:Addr).add j)=some u):=fun j u hj=>by
        rw [kaddr]
        exact (HB0.out.cell (p:=⟨b,off+j,none⟩) hb).trans (hC j u hj)
   have HLL:Hid (M.flatten.length=n*11):=by show _=_;rw [hM.len,hn]
   clear si0 sz0 sz1 sz2 hM hn h2 hA hC hb h0
   go_enter Tryz.func117,Tryz.ntmps117
   go_wp2_with (first
        |(at_builtin;refine wpList_append_own_at _ ?sca (.tmp 5) (.tmp 6) 50 ?scb (w.heap.size) 32 SI0 (.agg #[.string ⟨#[]⟩,.string ⟨#[]⟩,.string ⟨#[]⟩,.int .i64 0,.int .i64 0,.int .i64 0,.int .i64 0,.string ⟨#[]⟩,.int .i64 0,.int .i64 0,.slice none 0 0]) 11 136 Tryz.underlying50 SI1.out SI2.out SI3.out SI4.out ?scc ?scd (.slice (some ⟨w.heap.size,0,none⟩) 0 0) (0) ([]) ?sce (HO0.out) (⟨b,off,none⟩) (n) (c) (M.flatten) ?scg (HLL.out) (HNW.out) (HM.out.one) (by have:=H2.out;unfold maxLen;omega) (by have:=H2.out;omega) (HB0.out.size) ?sch
          case sca=>exact rfl
          case scb=>exact rfl
          case scc=>exact rfl
          case scd=>decide
          case sce=>exact rfl
          case scg=>exact rfl
          intro v2 w4 hown2 hgrow2 hnil2 hat2
          rw [Nat.zero_add,List.nil_append] at hown2
          have HM2:=LH (And.intro hown2 (zK0 HO0.out HB0.out hgrow2))
          clear hown2 hgrow2 hnil2 hat2))
   go_ret
   exact ⟨v2,rfl,HM2.out.1,HM2.out.2⟩
set_option maxRecDepth 100000 in
set_option maxHeartbeats 4000000 in
theorem ldelete (B g n cap i i1:Nat) (M:List (List Value)) (hM:RowsS 11 M) (hn:M.length=n) (h2:n≤2000) (hi:i<n) (hi1:i1=i+1) (w:World) (hown:w.ownsRow B 32 11 (.slice (some ⟨g,0,none⟩) n cap) n M.flatten):
 Calls Tryz.prog 124 #[.slice (some ⟨g,0,none⟩) n cap,.int .i64 i,.int .i64 i1] w fun e w'=>e= .returned (.slice (some ⟨g,0,none⟩) (n - 1) cap)∧w'.ownsRow B 32 11 (.slice (some ⟨g,0,none⟩) (n - 1) cap) (n - 1) (M.eraseIdx i).flatten∧w.grownBy w' (some g):=by
 obtain ⟨cur,hB,hg,hnc,hcm,hcs,hct⟩:=zL5 hown
 have hfl:M.flatten.length=n*11:=by rw [hM.len,hn]
 obtain ⟨m,hm⟩:∃z,z=n - i1:=⟨_,rfl⟩
 obtain ⟨n1,hn1⟩:∃z,z=n - 1:=⟨_,rfl⟩
 have him:i+m=n1:=by omega
 obtain ⟨SI0,si0,sz0,sz1,sz2⟩:=zB2 linfo
 -- the parts
 have hs0:∀W,(Instr.slice 50 (.slice (some ⟨g,0,none⟩) n cap) (some (.int .i64 (i:Int))) (some (.int .i64 (i1:Int))) (some (.int .i64 (n:Int)))).run Tryz.prog W= .ok (.slice (some (tlA g n i 11)) (i1 - i) (n - i)) W:=fun W=>zN3 W 50 32 11 Tryz.underlying50 zW3 g n cap i i1 n (by omega) (by omega) (by omega)
 have hs1:∀W,(Instr.slice 50 (.slice (some ⟨g,0,none⟩) n cap) (some (.int .i64 (i1:Int))) none none).run Tryz.prog W= .ok (.slice (some (tlA g cap i1 11)) m (cap - i1)) W:=fun W=>by rw [hm];exact zD8 W 50 32 11 Tryz.underlying50 zW3 g n cap i1 (by omega) (by omega)
 have hs2:∀W,(Instr.slice 50 (.slice (some ⟨g,0,none⟩) n cap) none (some (.int .i64 (i:Int))) none).run Tryz.prog W= .ok (.slice (some ⟨g,0,none⟩) i cap) W:=fun W=>by
  have:=run_slice_h (P:=Tryz.prog) W 50 (some ⟨g,0,none⟩) n cap (by kernel_rfl) .i64 (i:Int) (by omega) (by omega)
  rw [this,show Tryz.prog.elem 50=32 by kernel_rfl,zW3]
  simp [Result.andThen,sliced,Addr.add]
 have hs3:∀W,(Instr.slice 50 (.slice (some ⟨g,0,none⟩) n1 cap) (some (.int .i64 (n1:Int))) (some (.int .i64 (n:Int))) none).run Tryz.prog W= .ok (.slice (some ⟨g,n1*11,none⟩) 1 (cap - n1)) W:=fun W=>by
  have:=zH6 W 50 32 11 Tryz.underlying50 zW3 g n1 cap n1 n (by omega) (by omega)
  rwa [show n - n1=1 by omega] at this
 have hd:(M.drop i1).length=m:=by rw [List.length_drop,hn];omega
 have hRd:RowsS 11 (M.drop i1):=hM.sub fun r hr=>List.mem_of_mem_drop hr
 have hdl:(M.drop i1).flatten.length=m*11:=by rw [hRd.len,hd]
 have hnews:∀j u,(M.drop i1).flatten[j]?=some u→w.drew.cell? ((tlA g cap i1 11).add j)=some u:=fun j u hj=>by
  have hjl:j<m*11:=by rw [←hdl];exact (List.getElem?_eq_some_iff.1 hj).1
  have hm0:0<m:=by
   rcases Nat.eq_zero_or_pos m with h |h
   ·rw [h] at hjl;omega
   ·exact h
  rw [zW6 (by omega),zU6]
  rw [zP3 i1 hM,List.getElem?_drop] at hj
  show w.cell? ⟨g,i1*11+j,none⟩=some u
  rw [zS0 hg hct (by omega)]
  exact hj
 obtain ⟨cur1,hcur1⟩:∃c,c=(cur.toList.take (i*11)++(M.drop i1).flatten++cur.toList.drop (i*11+(M.drop i1).flatten.length)).toArray:=⟨_,rfl⟩
 have hz1:cur1.size=cap*11:=by
  rw [hcur1,List.size_toArray,List.length_append,List.length_append,List.length_take,List.length_drop,Array.length_toList,hcs,hdl];omega
 obtain ⟨W1,hW1⟩:∃W,W=w.drew.setRow g cur1:=⟨_,rfl⟩
 have hg1:W1.heap[g]?=some (.cells cur1 32 (0,0)):=by rw [hW1];exact setRow_heap w.drew g cur cur1 32 (0,0) hg
 have hr1:∀ty,(Builtin.append_ #[50,50] ty #[.slice (some ⟨g,0,none⟩) i cap,.slice (some (tlA g cap i1 11)) m (cap - i1)]).run Tryz.prog w.drew= .ok (.slice (some ⟨g,0,none⟩) n1 cap) W1:=fun ty=>by
  have:=run_append_room (P:=Tryz.prog) w.drew 50 ty 32 SI0 Tryz.underlying50 si0 g i cap cur hg (tlA g cap i1 11) m (cap - i1) (M.drop i1).flatten (by rw [hdl,sz1]) hnews hRd.one (by omega) (by rw [sz1,hdl,hcs];omega)
  rw [this,sz1,hW1,hcur1,him]
 obtain ⟨zs,hzs⟩:∃z,z=(Builtin.zeroCells (Value.cells (.agg #[.string ⟨#[]⟩,.string ⟨#[]⟩,.string ⟨#[]⟩,.int .i64 0,.int .i64 0,.int .i64 0,.int .i64 0,.string ⟨#[]⟩,.int .i64 0,.int .i64 0,.slice none 0 0])) 1).toList:=⟨_,rfl⟩
 have hzl:zs.length=11:=by rw [hzs];simp [Builtin.zeroCells,Value.cells]
 have hz0:∀u∈zs,u.oneCell'=true:=by
  have:zs.all (fun u=>u.oneCell')=true:=by rw [hzs];kernel_rfl
  exact List.all_eq_true.1 this
 obtain ⟨cur2,hcur2⟩:∃c,c=(cur1.toList.take (n1*11)++zs++cur1.toList.drop (n1*11+zs.length)).toArray:=⟨_,rfl⟩
 have hr3:∀ty,(Builtin.clear_ #[50] ty #[.slice (some ⟨g,n1*11,none⟩) 1 (cap - n1)]).run Tryz.prog W1= .ok (.tuple #[]) (W1.setRow g cur2):=fun ty=>by
  have:=zN4 (P:=Tryz.prog) W1 50 ty 32 SI0 (.agg #[.string ⟨#[]⟩,.string ⟨#[]⟩,.string ⟨#[]⟩,.int .i64 0,.int .i64 0,.int .i64 0,.int .i64 0,.string ⟨#[]⟩,.int .i64 0,.int .i64 0,.slice none 0 0]) g (n1*11) 1 (cap - n1) cur1 32 Tryz.underlying50 si0 sz0 hg1 (by omega) (by rw [←hzs,hzl,hz1];omega) (by rw [←hzs];exact hz0)
  rw [this,←hzs,hcur2]
 have hz2:cur2.size=cap*11:=by
  rw [hcur2,List.size_toArray,List.length_append,List.length_append,List.length_take,List.length_drop,Array.length_toList,hz1,hzl];omega
 have ht2:cur2.toList.take (n1*11)=(M.eraseIdx i).flatten:=by
  have e1:cur2.toList.take (n1*11)=cur1.toList.take (n1*11):=by
   rw [hcur2]
   show (cur1.toList.take (n1*11)++zs++cur1.toList.drop (n1*11+zs.length)).take (n1*11)=_
   rw [List.append_assoc,List.take_append_of_le_length (by rw [List.length_take,Array.length_toList,hz1];omega),List.take_take,Nat.min_self]
  have e2:cur1.toList.take (n1*11)=cur.toList.take (i*11)++(M.drop i1).flatten:=by
   rw [hcur1]
   show (cur.toList.take (i*11)++(M.drop i1).flatten++cur.toList.drop (i*11+(M.drop i1).flatten.length)).take (n1*11)=_
   rw [List.take_append_of_le_length (by rw [List.length_append,List.length_take,Array.length_toList,hcs,hdl];omega),List.take_of_length_le (by rw [List.length_append,List.length_take,Array.length_toList,hcs,hdl];omega)]
  rw [e1,e2,List.eraseIdx_eq_take_drop_succ,List.flatten_append,←hi1,zP2 i hM,←hct,List.take_take,Nat.min_eq_left (Nat.mul_le_mul_right _ (by omega))]
 have hlx:(M.eraseIdx i).flatten.length=n1*11:=by
  rw [←ht2,List.length_take,Array.length_toList,hz2];omega
 have HE:Hid ((W1.setRow g cur2).ownsRow B 32 11 (.slice (some ⟨g,0,none⟩) n1 cap) n1 (M.eraseIdx i).flatten∧w.grownBy (W1.setRow g cur2) (some g)):=by
  rw [hW1,setRow_setRow]
  have:=zE4 (w:=w.drew) (n:=n) (n':=n1) hB hg (by omega) hcm hz2 ht2 hlx
  exact ⟨this.1,(show w.grownBy w.drew (some g) from ⟨rfl,rfl,rfl,nl _,fun _ _ _=>rfl⟩).trans this.2⟩
 have T0:((i:Int)==(i1:Int))=false:=by simp;omega
 have hr1':=LH hr1
 clear hz0 hown hg hct hcs hfl hnews hdl hRd hd hW1 hg1 hr1 hz1 hcur1 hzs hzl hcur2 hz2 ht2 hlx hM hn h2 hcm hB si0 sz0 sz1 sz2 him hm
 rw [←hn1]
 clear hn1 hi hi1 hnc
 go_enter Tryz.func124,Tryz.ntmps124
 go_wp2_with fail
 go_region_held3 (fun W=>True) (exact trivial) (first
  |(refine zK9 _ (by rfl) _ _ 50 (by rfl) _ _ (by rfl) (by rfl) (hr1'.out _) ?_))
 go_wp2_with fail
 go_ret
 exact ⟨rfl,HE.out.1,HE.out.2⟩
set_option maxRecDepth 100000 in
set_option maxHeartbeats 4000000 in
theorem lreplaceK (k:Nat) (hk:k=1) (B g n cap i i1 b:Nat) (M:List (List Value)) (r:List Value) (hM:RowsS 11 M) (hr:r.length=11) (hr1:∀u∈r,u.oneCell'=true) (hn:M.length=n) (h2:n≤2000) (hi:i<n) (hi1:i1=i+1) (w:World) (hown:w.ownsRow B 32 11 (.slice (some ⟨g,0,none⟩) n cap) n M.flatten)
 (hv:∀j u,r[j]?=some u→w.cell? ⟨b,j,none⟩=some u):
 Calls Tryz.prog 123 #[.slice (some ⟨g,0,none⟩) n cap,.int .i64 i,.int .i64 i1,.slice (some ⟨b,0,none⟩) k k] w fun e w'=>e= .returned (.slice (some ⟨g,0,none⟩) n cap)∧w'.ownsRow B 32 11 (.slice (some ⟨g,0,none⟩) n cap) n (M.set i r).flatten∧w.grownBy w' (some g):=by
 obtain ⟨cur,hB,hg,hnc,hcm,hcs,hct⟩:=zL5 hown
 obtain ⟨SI0,si0,sz0,sz1,sz2⟩:=zB2 linfo
 have hp:i*11+11≤n*11:=by omega
 have hle1:i1≤4000:=by omega
 have hle2:n≤4000:=by omega
 have hle3:i1≤n:=by omega
 have HU1:=LH (wrN i1 hle1)
 have HU2:=LH (wrN n hle2)
 have B2:(i1:Int)≤(n:Int):=Int.ofNat_le.2 hle3
 clear hle1 hle2 hle3
 have hv0:∀j u,r[j]?=some u→w.cell? ((⟨b,0,none⟩:Addr).add j)=some u:=fun j u hj=>by rw [zU6,Nat.zero_add];exact hv j u hj
 have hs0:∀W,(Instr.slice 50 (.slice (some ⟨g,0,none⟩) n cap) (some (.int .i64 (i:Int))) (some (.int .i64 (i1:Int))) none).run Tryz.prog W= .ok (.slice (some ⟨g,i*11,none⟩) (i1 - i) (cap - i)) W:=fun W=>zH6 W 50 32 11 Tryz.underlying50 zW3 g n cap i i1 (by omega) (by omega)
 have hs2:∀W,(Instr.slice 50 (.slice (some ⟨g,0,none⟩) n cap) none (some (.int .i64 (i:Int))) none).run Tryz.prog W= .ok (.slice (some ⟨g,0,none⟩) i cap) W:=fun W=>by
  have:=run_slice_h (P:=Tryz.prog) W 50 (some ⟨g,0,none⟩) n cap (by kernel_rfl) .i64 (i:Int) (by omega) (by omega)
  rw [this,show Tryz.prog.elem 50=32 by kernel_rfl,zW3]
  simp [Result.andThen,sliced,Addr.add]
 obtain ⟨cur1,hcur1⟩:∃c,c=(cur.toList.take (i*11)++r++cur.toList.drop (i*11+r.length)).toArray:=⟨_,rfl⟩
 have hz1:cur1.size=cap*11:=by
  rw [hcur1,List.size_toArray,List.length_append,List.length_append,List.length_take,List.length_drop,Array.length_toList,hcs,hr];omega
 have ht1:cur1.toList.take (n*11)=(M.set i r).flatten:=by
  rw [hcur1]
  exact zY9 hM hr hn hi hct (by rw [Array.length_toList,hcs];omega)
 have hlx:(M.set i r).flatten.length=n*11:=by
  rw [←ht1,List.length_take,Array.length_toList,hz1];omega
 have T0:((i:Int)==(i1:Int))=false:=by simp;omega
 by_cases hend:i1=n
 · -- at the end
   have HE:Hid ((w.setRow g cur1).ownsRow B 32 11 (.slice (some ⟨g,0,none⟩) n cap) n (M.set i r).flatten∧w.grownBy (w.setRow g cur1) (some g)):=zE4 (n:=n) hB hg hnc hcm hz1 ht1 hlx
   have hr3:∀ty,(Builtin.append_ #[50,50] ty #[.slice (some ⟨g,0,none⟩) i cap,.slice (some ⟨b,0,none⟩) k k]).run Tryz.prog w= .ok (.slice (some ⟨g,0,none⟩) n cap) (w.setRow g cur1):=fun ty=>by
    have:=run_append_room (P:=Tryz.prog) w 50 ty 32 SI0 Tryz.underlying50 si0 g i cap cur hg ⟨b,0,none⟩ k k r (by rw [hr,sz1,hk]) hv0 hr1 (by omega) (by rw [sz1,hr,hcs];omega)
    rw [this,sz1,hcur1,show i+k=n by omega]
   have T1:((i1:Int)==(n:Int))=true:=by simp;omega
   have hr3':=LH hr3
   clear hk hown hg hB hnc hcm hcs hct si0 sz0 sz1 sz2 hv hv0 hcur1 hz1 ht1 hlx hM hr hr1 hn h2 hi hi1 hend hp hr3
   obtain ⟨U1,V2,B1⟩:=HU1.out
   obtain ⟨U2,V3,B3⟩:=HU2.out
   go_enter Tryz.func123,Tryz.ntmps123
   go_wp2_with (at_builtin;refine Lib.wpList_append_run _ rfl _ _ _ _ rfl _ _ rfl rfl _ _ (hr3'.out _) ?_)
   go_ret
   exact ⟨rfl,HE.out.1,HE.out.2⟩
 ·obtain ⟨m,hm⟩:∃z,z=n - i1:=⟨_,rfl⟩
  have hs1:∀W,(Instr.slice 50 (.slice (some ⟨g,0,none⟩) n cap) (some (.int .i64 (i1:Int))) none none).run Tryz.prog W= .ok (.slice (some ⟨g,i1*11,none⟩) m (cap - i1)) W:=fun W=>by
   rw [hm,←zW6 (g:=g) (show¬cap=i1 by omega)];exact zD8 W 50 32 11 Tryz.underlying50 zW3 g n cap i1 (by omega) (by omega)
  have hs5:∀W,(Instr.slice 50 (.slice (some ⟨g,0,none⟩) n cap) none (some (.int .i64 (n:Int))) none).run Tryz.prog W= .ok (.slice (some ⟨g,0,none⟩) n cap) W:=fun W=>by
   have:=run_slice_h (P:=Tryz.prog) W 50 (some ⟨g,0,none⟩) n cap (by kernel_rfl) .i64 (n:Int) (by omega) (by omega)
   rw [this,show Tryz.prog.elem 50=32 by kernel_rfl,zW3]
   simp [Result.andThen,sliced,Addr.add]
  have hs3:∀W,(Instr.slice 50 (.slice (some ⟨g,0,none⟩) n cap) (some (.int .i64 (i:Int))) none none).run Tryz.prog W= .ok (.slice (some ⟨g,i*11,none⟩) (n - i) (cap - i)) W:=fun W=>by
   rw [←zW6 (g:=g) (show¬cap=i by omega)];exact zD8 W 50 32 11 Tryz.underlying50 zW3 g n cap i (by omega) (by omega)
  have hs4:∀W,(Instr.slice 50 (.slice (some ⟨g,0,none⟩) n cap) (some (.int .i64 (n:Int))) none none).run Tryz.prog W= .ok (.slice (some (tlA g cap n 11)) 0 (cap - n)) W:=fun W=>by
   have:=zD8 W 50 32 11 Tryz.underlying50 zW3 g n cap n (by omega) (by omega)
   rwa [Nat.sub_self] at this
  have hcl:∀W ty,(Builtin.clear_ #[50] ty #[.slice (some (tlA g cap n 11)) 0 (cap - n)]).run Tryz.prog W= .ok (.tuple #[]) W:=fun W ty=>zN5 W 50 ty 32 _ _ Tryz.underlying50
  obtain ⟨W1,hW1⟩:∃W:Nat→World,∀q,W q=(w.drewN q).setRow g cur1:=⟨_,fun _=>rfl⟩
  have hg1:∀q,(W1 q).heap[g]?=some (.cells cur1 32 (0,0)):=fun q=>by rw [hW1];exact setRow_heap (w.drewN q) g cur cur1 32 (0,0) hg
  have hr3:∀q ty,(Builtin.copy_ #[50,50] ty #[.slice (some ⟨g,i*11,none⟩) (n - i) (cap - i),.slice (some ⟨b,0,none⟩) k k]).run Tryz.prog (w.drewN q)= .ok (.int .i64 1) (W1 q):=fun q ty=>by
   have:=zH7 (P:=Tryz.prog) (w.drewN q) 50 50 ty 32 g (i*11) (n - i) (cap - i) ⟨b,0,none⟩ k k cur 32 r 11 Tryz.underlying50 linfoS hg (by rw [hr,show Nat.min k (n - i)=1 from hk ▸ Nat.min_eq_left (by omega)]) hv0 (by rw [hr,hcs];omega) hr1
   rw [this,show Nat.min k (n - i)=1 from hk ▸ Nat.min_eq_left (by omega),hW1,hcur1]
   rfl
  obtain ⟨cs,hcsd⟩:∃c,c=(cur1.toList.take (n*11)).drop (i1*11):=⟨_,rfl⟩
  have hcl2:cs.length=m*11:=by rw [hcsd,List.length_drop,List.length_take,Array.length_toList,hz1];omega
  have hcs1:∀u∈cs,u.oneCell'=true:=fun u hu=>by
   rw [hcsd,ht1] at hu
   refine RowsS.one (s:=11) (M:=M.set i r) ?_ u (List.mem_of_mem_drop hu)
   intro x hx
   rcases List.mem_or_eq_of_mem_set hx with h |h
   ·exact hM x h
   ·rw [h];exact ⟨hr,hr1⟩
  have hr4:∀q ty,(Builtin.copy_ #[50,50] ty #[.slice (some ⟨g,i1*11,none⟩) m (cap - i1),.slice (some ⟨g,i1*11,none⟩) m (cap - i1)]).run Tryz.prog (W1 q).drew= .ok (.int .i64 m) (W1 q).drew:=fun q ty=>by
   have:=zH7 (P:=Tryz.prog) (W1 q).drew 50 50 ty 32 g (i1*11) m (cap - i1) ⟨g,i1*11,none⟩ m (cap - i1) cur1 32 cs 11 Tryz.underlying50 linfoS (hg1 q) (by rw [hcl2,show Nat.min m m=m from Nat.min_self m]) (fun j u hj=>by
        have hjl:j<m*11:=by rw [←hcl2];exact (List.getElem?_eq_some_iff.1 hj).1
        rw [zU6]
        show (W1 q).cell? ⟨g,i1*11+j,none⟩=some u
        rw [zS0 (k:=n*11) (hg1 q) rfl (by omega),←hj,hcsd,List.getElem?_drop]) (by rw [hcl2,hz1];omega) hcs1
   rw [this,show Nat.min m m=m from Nat.min_self m]
   have e:cur1.toList.take (i1*11)++cs++cur1.toList.drop (i1*11+cs.length)=cur1.toList:=by
        rw [hcsd,List.drop_take,←List.take_add,List.length_take,List.length_drop,Array.length_toList,hz1,show i1*11+min (n*11 - i1*11) (cap*11 - i1*11)=i1*11+(n*11 - i1*11) by omega,List.take_append_drop]
   rw [e,Array.toArray_toList,setRow_self (W1 q).drew g cur1 32 (0,0) (hg1 q)]
   rfl
  have HE:∀q,Hid ((W1 q).drew.ownsRow B 32 11 (.slice (some ⟨g,0,none⟩) n cap) n (M.set i r).flatten∧w.grownBy (W1 q).drew (some g)):=fun q=>by
   have:=zE4 (w:=w.drewN q) (n:=n) hB hg hnc hcm hz1 ht1 hlx
   rw [hW1]
   exact ⟨this.1,((show w.grownBy (w.drewN q) (some g) from ⟨rfl,rfl,rfl,nl _,fun _ _ _=>rfl⟩).trans this.2).trans ⟨rfl,rfl,rfl,nl _,fun _ _ _=>rfl⟩⟩
  have T1:((i1:Int)==(n:Int))=false:=by simp;omega
  have T2:((i:Int)+(k:Int):Int)=(i1:Int):=by omega
  have T3:((i1:Int)+(m:Int):Int)=(n:Int):=by omega
  have T4:decide ((n:Int) > (cap:Int))=false:=dF (by omega)
  have T5:decide (cap<n)=false:=dF (by omega)
  obtain ⟨U1,V2,B1⟩:=HU1.out
  obtain ⟨U2,V3,B3⟩:=HU2.out
  have hs1b:∀W,(Instr.slice 50 (.slice (some ⟨g,0,none⟩) n cap) (some (.int .i64 (wrap64 ((i:Int)+(k:Int))))) none none).run Tryz.prog W= .ok (.slice (some ⟨g,i1*11,none⟩) m (cap - i1)) W:=fun W=>by rw [T2,U1];exact hs1 W
  have hs1c:∀W,(Instr.slice 50 (.slice (some ⟨g,0,none⟩) n cap) (some (.int .i64 (wrap64 (i1:Int)))) none none).run Tryz.prog W= .ok (.slice (some ⟨g,i1*11,none⟩) m (cap - i1)) W:=fun W=>by rw [U1];exact hs1 W
  have V1:IntKind.i64.wrap ((i:Int)+(k:Int))=i1:=by rw [T2,V2]
  have hr4':=LH hr4
  have hr3':=LH hr3
  clear hk hown hg hB hnc hcm hcs hct si0 sz0 sz1 sz2 hv hv0 hcur1 hz1 ht1 hlx hM hr hr1 hn h2 hi hi1 hend hp hm hW1 hg1 hcsd hcl2 hcs1 hr4 hr3
  go_enter Tryz.func123,Tryz.ntmps123
  go_wp2_with fail
  go_quiet (fail)
  go_wp2_with (refine zK6 _ rfl _ _ _ rfl _ _ rfl rfl (hr3'.out _ _) ?_)
  go_region_held3 (fun W=>True) (exact trivial) (first
   |(refine zN2 _ (by rfl) _ _ 50 (by rfl) _ _ (by rfl) (by rfl) (hr4'.out _ _) ?_))
  go_wp2_with fail
  go_ret
  exact ⟨rfl,(HE _).out.1,(HE _).out.2⟩
theorem lreplace (B g n cap i i1 b:Nat) (M:List (List Value)) (r:List Value) (hM:RowsS 11 M) (hr:r.length=11) (hr1:∀u∈r,u.oneCell'=true) (hn:M.length=n) (h2:n≤2000) (hi:i<n) (hi1:i1=i+1) (w:World) (hown:w.ownsRow B 32 11 (.slice (some ⟨g,0,none⟩) n cap) n M.flatten)
 (hv:∀j u,r[j]?=some u→w.cell? ⟨b,j,none⟩=some u):
 Calls Tryz.prog 123 #[.slice (some ⟨g,0,none⟩) n cap,.int .i64 i,.int .i64 i1,.slice (some ⟨b,0,none⟩) 1 1] w fun e w'=>e= .returned (.slice (some ⟨g,0,none⟩) n cap)∧w'.ownsRow B 32 11 (.slice (some ⟨g,0,none⟩) n cap) n (M.set i r).flatten∧w.grownBy w' (some g):=
 lreplaceK 1 rfl B g n cap i i1 b M r hM hr hr1 hn h2 hi hi1 w hown hv
def nmO (D:Nds) (n:Nat):List Ndm:=(List.range n).map fun k=>ndC D k (D.SA k) (D.SC k)
def lmO (K:Lks) (m:Nat):List Lkm:=(List.range m).map fun k=>lkC K k (K.CA k) (K.CC k)
theorem zE5 (D:Nds) (n:Nat):(nmO D n).length=n:=by simp [nmO]
theorem zE6 (K:Lks) (m:Nat):(lmO K m).length=m:=by simp [lmO]
theorem nmO_at {D:Nds} {n k:Nat} (h:k<n):(nmO D n)[k]?=some (ndC D k (D.SA k) (D.SC k)):=by simp [nmO,h]
theorem lmO_at {K:Lks} {n k:Nat} (h:k<n):(lmO K n)[k]?=some (lkC K k (K.CA k) (K.CC k)):=by simp [lmO,h]
theorem ndx_nmO (D:Nds) (n:Nat):ndx (nmO D n)=recN D n:=by unfold ndx nmO recN;rw [List.map_map];rfl
theorem lkx_lmO (K:Lks) (m:Nat):lkx (lmO K m)=recL K m:=by unfold lkx lmO recL;rw [List.map_map];rfl
theorem zF6 (M:List Ndm):(M.map ncm).flatten=nc M:=by unfold nc;rw [List.flatMap_def]
theorem zF7 (M:List Lkm):(M.map lcm').flatten=lc M:=by unfold lc;rw [List.flatMap_def]
theorem ncm_one (p:Ndm):∀u,u∈ncm p→u.oneCell'=true:=by unfold ncm ncs;simp [Value.oneCell']
theorem lcm_one (p:Lkm):∀u,u∈lcm' p→u.oneCell'=true:=by unfold lcm' lcs;simp [Value.oneCell']
theorem zL2 (M:List Ndm):RowsS 9 (M.map ncm):=fun r hr=>by
 obtain ⟨p,_,rfl⟩:=List.mem_map.1 hr
 exact ⟨rfl,ncm_one p⟩
theorem zL3 (M:List Lkm):RowsS 11 (M.map lcm'):=fun r hr=>by
 obtain ⟨p,_,rfl⟩:=List.mem_map.1 hr
 exact ⟨rfl,lcm_one p⟩
theorem zO4 {w:World} {A:Option Addr} {n:Nat} {D:Nds} (h:NdIn w A n D):n=0∨∃b off,A=some ⟨b,off,none⟩∧b<w.heap.size∧∀j u,((nmO D n).map ncm).flatten[j]?=some u→w.cell? ⟨b,off+j,none⟩=some u:=by
 rcases h.2 with h0 |⟨b,off,hA,hb,hc⟩
 ·exact .inl h0
 refine .inr ⟨b,off,hA,hb,fun j u hj=>?_⟩
 rw [zF6] at hj
 have hjl:j<n*9:=by have:=(List.getElem?_eq_some_iff.1 hj).1;rwa [nc_len,zE5] at this
 have hk:j / 9<n:=by omega
 have hi:j % 9<9:=Nat.mod_lt _ (by omega)
 have hf:=zK4 ncm 9 (fun _=>rfl) (nmO D n) (j / 9) (j % 9) _ (nmO_at hk) hi
 rw [show j / 9*9+j % 9=j by omega] at hf
 have h1:=(hc (j / 9) hk).1 (j % 9) u (by
  have e:ncm (ndC D (j / 9) (D.SA (j / 9)) (D.SC (j / 9)))=D.vals (j / 9):=zH0 _ _ _ _
  rw [←e,←hf];exact hj)
 rw [show off+j=off+j / 9*9+j % 9 by omega]
 exact h1
theorem zO5 {w:World} {A:Option Addr} {n:Nat} {D:Lks} (h:LkIn w A n D):n=0∨∃b off,A=some ⟨b,off,none⟩∧b<w.heap.size∧∀j u,((lmO D n).map lcm').flatten[j]?=some u→w.cell? ⟨b,off+j,none⟩=some u:=by
 rcases h.2 with h0 |⟨b,off,hA,hb,hc⟩
 ·exact .inl h0
 refine .inr ⟨b,off,hA,hb,fun j u hj=>?_⟩
 rw [zF7] at hj
 have hjl:j<n*11:=by have:=(List.getElem?_eq_some_iff.1 hj).1;rwa [lc_len,zE6] at this
 have hk:j / 11<n:=by omega
 have hi:j % 11<11:=Nat.mod_lt _ (by omega)
 have hf:=zK4 lcm' 11 (fun _=>rfl) (lmO D n) (j / 11) (j % 11) _ (lmO_at hk) hi
 rw [show j / 11*11+j % 11=j by omega] at hf
 have h1:=(hc (j / 11) hk).1 (j % 11) u (by
  have e:lcm' (lkC D (j / 11) (D.CA (j / 11)) (D.CC (j / 11)))=D.vals (j / 11):=zH1 _ _ _ _
  rw [←e,←hf];exact hj)
 rw [show off+j=off+j / 11*11+j % 11 by omega]
 exact h1
theorem zS2 {w:World} {A:Option Addr} {n:Nat} {D:Nds} (h:NdIn w A n D):∀p,p∈nmO D n→TabIn w p.A p.x.T.length (kX p.x.T) (kY p.x.T):=fun p hp=>by
 obtain ⟨k,hk,rfl⟩:=List.mem_map.1 hp
 obtain ⟨_,_,_,_,_,ht⟩:=h.at (List.mem_range.1 hk)
 exact zC2 ht
theorem zS4 {w:World} {A:Option Addr} {n:Nat} {D:Lks} (h:LkIn w A n D):∀p,p∈lmO D n→TabIn w p.A p.x.T.length (kX p.x.T) (kY p.x.T):=fun p hp=>by
 obtain ⟨k,hk,rfl⟩:=List.mem_map.1 hp
 obtain ⟨_,_,_,_,_,ht⟩:=h.at (List.mem_range.1 hk)
 exact zC2 ht
theorem flat_set {α:Type} (f:α→List Value) (s:Nat) (hf:∀a,(f a).length=s):∀(L:List α) (i j:Nat) (a a':α) (v:Value),j<s→L[i]?=some a→f a'=(f a).set j v→(L.flatMap f).set (i*s+j) v=(L.set i a').flatMap f
 |[],i,j,a,a',v,_,h,_=>by simp at h
 |q::L,0,j,a,a',v,hj,h,hv=>by
  have:q=a:=by simpa using h
  subst this
  rw [sB,List.flatMap_cons,List.flatMap_cons,Nat.zero_mul,Nat.zero_add,List.set_append_left _ _ (by rw [hf];exact hj),hv]
 |q::L,i+1,j,a,a',v,hj,h,hv=>by
  rw [sC,List.flatMap_cons,List.flatMap_cons,List.set_append_right _ _ (by rw [hf,Nat.succ_mul];omega),hf,show (i+1)*s+j - s=i*s+j by rw [Nat.succ_mul];omega,flat_set f s hf L i j a a' v hj (by simpa using h) hv]
theorem nc_set {M:List Ndm} {i:Nat} {p:Ndm} {A:Option Addr} {c:Nat} (h:M[i]?=some p):(nc M).set (i*9+6) (.slice A p.x.T.length c)=nc (M.set i ⟨p.x,A,c⟩):=flat_set ncm 9 (fun _=>rfl) M i 6 p ⟨p.x,A,c⟩ _ (by omega) h rfl
theorem lc_set {M:List Lkm} {i:Nat} {p:Lkm} {A:Option Addr} {c:Nat} (h:M[i]?=some p):(lc M).set (i*11+10) (.slice A p.x.T.length c)=lc (M.set i ⟨p.x,A,c⟩):=flat_set lcm' 11 (fun _=>rfl) M i 10 p ⟨p.x,A,c⟩ _ (by omega) h rfl
def FrN (B:Nat) (M:List Ndm) (i:Nat):Prop:=∀k p,k<i→M[k]?=some p→p.x.T.length≠0→∀b off,p.A=some ⟨b,off,none⟩→B≤b
def FrL (B:Nat) (M:List Lkm) (i:Nat):Prop:=∀k p,k<i→M[k]?=some p→p.x.T.length≠0→∀b off,p.A=some ⟨b,off,none⟩→B≤b
structure CpJ (B:Nat) (vn vl:Value) (NM:List Ndm) (LM:List Lkm) (i j:Nat) (W:World):Prop where
 on:W.ownsRow B 30 9 vn NM.length (nc NM)
 ol:W.ownsRow B 32 11 vl LM.length (lc LM)
 tn:TabsN 0 W vn.ownBlock vl.ownBlock NM
 tl:TabsL 0 W vn.ownBlock vl.ownBlock LM
 fn:FrN B NM i
 fl:FrL B LM j
theorem CpJ.call {B i j:Nat} {vn vl:Value} {NM:List Ndm} {LM:List Lkm} {W W':World} (h:CpJ B vn vl NM LM i j W) (hb:Below W.heap.size W W'):CpJ B vn vl NM LM i j W':=
 ⟨zC0 h.on hb,zC0 h.ol hb,fun p hp=>⟨(h.tn p hp).1.below (nl _) hb,(h.tn p hp).2⟩,fun p hp=>⟨(h.tl p hp).1.below (nl _) hb,(h.tl p hp).2⟩,h.fn,h.fl⟩
theorem CpJ.start {w w5:World} {A B:Option Addr} {n m b0:Nat} {D:Nds} {K:Lks} {vn vl:Value} (hD:NdIn w A n D) (hK:LkIn w B m K) (hb0:w.heap.size≤b0) (h2:Below w.heap.size w w5)
 (hn:w5.ownsRow b0 30 9 vn n (nc (nmO D n))) (hl:w5.ownsRow b0 32 11 vl m (lc (lmO K m))):CpJ b0 vn vl (nmO D n) (lmO K m) 0 0 w5:=by
 have rn:∀g,vn.ownBlock=some g→w.heap.size≤g:=fun g e=>nT hb0 (hn.lt g e).1
 have rl:∀g,vl.ownBlock=some g→w.heap.size≤g:=fun g e=>nT hb0 (hl.lt g e).1
 refine ⟨by rw [zE5];exact hn,by rw [zE6];exact hl,fun p hp=>?_,fun p hp=>?_,fun k p h=>absurd h (Nat.not_lt_zero _),fun k p h=>absurd h (Nat.not_lt_zero _)⟩
 ·have ht:=zS2 hD p hp
  refine ⟨ht.below (nl _) h2,fun h0 b off e=>?_⟩
  rw [e] at ht
  have:=ht.blk_lt h0
  exact ⟨Nat.zero_le _,fun e2=>by have:=rn b e2.symm;omega,fun e2=>by have:=rl b e2.symm;omega⟩
 ·have ht:=zS4 hK p hp
  refine ⟨ht.below (nl _) h2,fun h0 b off e=>?_⟩
  rw [e] at ht
  have:=ht.blk_lt h0
  exact ⟨Nat.zero_le _,fun e2=>by have:=rn b e2.symm;omega,fun e2=>by have:=rl b e2.symm;omega⟩
theorem blkz {W w3:World} {t:TypeId} {cs:Array Value} (h:Below (W.alloc (.cells cs t)).heap.size (W.alloc (.cells cs t)) w3):Blk w3 W.heap.size t cs:=(Blk.new W t cs).call h
theorem blkd {W w3:World} {t:TypeId} {cs:Array Value} (h:Below (W.alloc (.cells cs t)).drew.heap.size (W.alloc (.cells cs t)).drew w3):Blk w3 W.heap.size t cs:=(show Blk (W.alloc (.cells cs t)).drew W.heap.size t cs from Blk.new W t cs).call h
theorem cell_far {W:World} {G g i j:Nat} {v:Value} (h:G≠g):(W.setCell ⟨g,j,none⟩ v).cell? ⟨G,i,none⟩=W.cell? ⟨G,i,none⟩:=World.cell?_of_block (heap_setCell_other W ⟨g,j,none⟩ G v h)
theorem zO7 {w:World} {B n s G:Nat} {e t:TypeId} {v a b:Value} {cs:Array Value} {xs:List Value} (h:w.ownsRow B e s v n xs) (hG:Blk w G t cs) (hne:e≠t):((w.setCell ⟨G,0,none⟩ a).setCell ⟨G,1,none⟩ b).ownsRow B e s v n xs:=by
 have h1:=ownsRow_setCell_other h (a:=⟨G,0,none⟩) (zJ5 h hG hne) a
 exact ownsRow_setCell_other h1 (a:=⟨G,1,none⟩) (zJ5 h hG hne) b
theorem CpJ.stepN {B g n c i j:Nat} {vl:Value} {NM:List Ndm} {LM:List Lkm} {W W1:World} {p:Ndm} {A':Option Addr} {c':Nat} (h:CpJ B (.slice (some ⟨g,0,none⟩) n c) vl NM LM i j W) (hi:NM[i]?=some p) (hb:Below W.heap.size W W1) (ht:TabIn W1 A' p.x.T.length (kX p.x.T) (kY p.x.T)) (hA:p.x.T.length≠0→∃g',A'=some ⟨g',0,none⟩∧W.heap.size≤g') (hB:B≤W.heap.size):
 CpJ B (.slice (some ⟨g,0,none⟩) n c) vl (NM.set i ⟨p.x,A',c'⟩) LM (i+1) j (W1.setCell ⟨g,i*9+6,none⟩ (.slice A' p.x.T.length c'))∧W1.grownBy (W1.setCell ⟨g,i*9+6,none⟩ (.slice A' p.x.T.length c')) (some g):=by
 have h1:=h.call hb
 have hn:n=NM.length:=own_n h.on
 subst hn
 have hset:=zG1 W1 g (i*9+6) (.slice A' p.x.T.length c')
 have hst:=h1.on.stored (i*9+6) (.slice A' p.x.T.length c')
 have hgl:=h.on.lt g rfl
 have hob:(Value.slice (some ⟨g,0,none⟩) NM.length c).ownBlock=some g:=rfl
 have hvl:∀b,vl.ownBlock=some b→b<W.heap.size:=fun b e=>(h.ol.lt b e).2
 have hA2:p.x.T.length≠0→∀b off,A'=some ⟨b,off,none⟩→W.heap.size≤b:=fun h0 b off e=>by
  obtain ⟨g',e2,hg⟩:=hA h0
  rw [e2] at e;cases e;exact hg
 refine ⟨⟨?_,?_,fun q hq=>?_,fun q hq=>?_,fun k q hk hq h0 b off e=>?_,h.fl⟩,hset⟩
 ·rw [←nc_set hi,List.length_set];exact hst.1
 ·refine h1.ol.kept hset ?_
  rcases zR2 h1.ol h1.on (by decide) with q |q
  ·exact .inl q
  ·exact .inr q
 ·rcases List.mem_or_eq_of_mem_set hq with hq |rfl
  ·exact ⟨(h1.tn q hq).1.grown hset (fun h0 b off e=>((h1.tn q hq).2 h0 b off e).2.1),(h1.tn q hq).2⟩
  ·refine ⟨ht.grown hset (fun h0 b off e e2=>?_),fun h0 b off e=>⟨Nat.zero_le _,fun e2=>?_,fun e2=>?_⟩⟩
   ·have:=hA2 h0 b off e;have:=Option.some.inj e2;omega
   ·have:=hA2 h0 b off e;have:=Option.some.inj (e2.trans hob);omega
   ·have:=hA2 h0 b off e;have:=hvl b e2.symm;omega
 ·exact ⟨(h1.tl q hq).1.grown hset (fun h0 b off e=>((h1.tl q hq).2 h0 b off e).2.1),(h1.tl q hq).2⟩
 ·by_cases hki:k=i
  ·subst hki
   have hkl:k<NM.length:=(List.getElem?_eq_some_iff.1 hi).1
   rw [List.getElem?_set_self hkl] at hq
   cases hq
   exact nT hB (hA2 h0 b off e)
  ·rw [List.getElem?_set_ne (fun e=>hki e.symm)] at hq
   exact h.fn k q (by omega) hq h0 b off e
theorem CpJ.stepL {B g n c i j:Nat} {vn:Value} {NM:List Ndm} {LM:List Lkm} {W W1:World} {p:Lkm} {A':Option Addr} {c':Nat} (h:CpJ B vn (.slice (some ⟨g,0,none⟩) n c) NM LM i j W) (hi:LM[j]?=some p) (hb:Below W.heap.size W W1) (ht:TabIn W1 A' p.x.T.length (kX p.x.T) (kY p.x.T)) (hA:p.x.T.length≠0→∃g',A'=some ⟨g',0,none⟩∧W.heap.size≤g') (hB:B≤W.heap.size):
 CpJ B vn (.slice (some ⟨g,0,none⟩) n c) NM (LM.set j ⟨p.x,A',c'⟩) i (j+1) (W1.setCell ⟨g,j*11+10,none⟩ (.slice A' p.x.T.length c'))∧W1.grownBy (W1.setCell ⟨g,j*11+10,none⟩ (.slice A' p.x.T.length c')) (some g):=by
 have h1:=h.call hb
 have hn:n=LM.length:=own_n h.ol
 subst hn
 have hset:=zG1 W1 g (j*11+10) (.slice A' p.x.T.length c')
 have hst:=h1.ol.stored (j*11+10) (.slice A' p.x.T.length c')
 have hgl:=h.ol.lt g rfl
 have hob:(Value.slice (some ⟨g,0,none⟩) LM.length c).ownBlock=some g:=rfl
 have hvn:∀b,vn.ownBlock=some b→b<W.heap.size:=fun b e=>(h.on.lt b e).2
 have hA2:p.x.T.length≠0→∀b off,A'=some ⟨b,off,none⟩→W.heap.size≤b:=fun h0 b off e=>by
  obtain ⟨g',e2,hg⟩:=hA h0
  rw [e2] at e;cases e;exact hg
 refine ⟨⟨?_,?_,fun q hq=>?_,fun q hq=>?_,h.fn,fun k q hk hq h0 b off e=>?_⟩,hset⟩
 ·refine h1.on.kept hset ?_
  rcases zR2 h1.on h1.ol (by decide) with q |q
  ·exact .inl q
  ·exact .inr q
 ·rw [←lc_set hi,List.length_set];exact hst.1
 ·exact ⟨(h1.tn q hq).1.grown hset (fun h0 b off e=>((h1.tn q hq).2 h0 b off e).2.2),(h1.tn q hq).2⟩
 ·rcases List.mem_or_eq_of_mem_set hq with hq |rfl
  ·exact ⟨(h1.tl q hq).1.grown hset (fun h0 b off e=>((h1.tl q hq).2 h0 b off e).2.2),(h1.tl q hq).2⟩
  ·refine ⟨ht.grown hset (fun h0 b off e e2=>?_),fun h0 b off e=>⟨Nat.zero_le _,fun e2=>?_,fun e2=>?_⟩⟩
   ·have:=hA2 h0 b off e;have:=Option.some.inj e2;omega
   ·have:=hA2 h0 b off e;have:=hvn b e2.symm;omega
   ·have:=hA2 h0 b off e;have:=Option.some.inj (e2.trans hob);omega
 ·by_cases hki:k=j
  ·subst hki
   have hkl:k<LM.length:=(List.getElem?_eq_some_iff.1 hi).1
   rw [List.getElem?_set_self hkl] at hq
   cases hq
   exact nT hB (hA2 h0 b off e)
  ·rw [List.getElem?_set_ne (fun e=>hki e.symm)] at hq
   exact h.fl k q (by omega) hq h0 b off e
theorem CpJ.done {B:Nat} {vn vl:Value} {NM:List Ndm} {LM:List Lkm} {W:World} (h:CpJ B vn vl NM LM NM.length LM.length W):CpR B NM LM vn vl W:=by
 refine ⟨h.on,h.ol,fun p hp=>⟨(h.tn p hp).1,fun h0 b off e=>⟨?_,((h.tn p hp).2 h0 b off e).2⟩⟩,fun p hp=>⟨(h.tl p hp).1,fun h0 b off e=>⟨?_,((h.tl p hp).2 h0 b off e).2⟩⟩⟩
 ·obtain ⟨k,hk,e2⟩:=List.getElem_of_mem hp
  exact h.fn k p hk (by rw [List.getElem?_eq_getElem hk,e2]) h0 b off e
 ·obtain ⟨k,hk,e2⟩:=List.getElem_of_mem hp
  exact h.fl k p hk (by rw [List.getElem?_eq_getElem hk,e2]) h0 b off e
theorem CpJ.fin {B i j:Nat} {vn vl:Value} {NM:List Ndm} {LM:List Lkm} {W:World} (h:CpJ B vn vl NM LM i j W) (hi:NM.length=i) (hj:LM.length=j):CpR B NM LM vn vl W:=by
 subst hi hj
 exact h.done
theorem ndx_set {M:List Ndm} {i:Nat} {p:Ndm} {A:Option Addr} {c:Nat} (h:M[i]?=some p):ndx (M.set i ⟨p.x,A,c⟩)=ndx M:=by
 unfold ndx
 rw [List.map_set]
 obtain ⟨hi,e⟩:=List.getElem?_eq_some_iff.1 h
 have hi2:i<(M.map (·.x)).length:=by simpa using hi
 have h2:=List.set_getElem_self hi2
 have:(M.map (·.x))[i]=p.x:=by simp [e]
 rw [this] at h2
 exact h2
theorem lkx_set {M:List Lkm} {i:Nat} {p:Lkm} {A:Option Addr} {c:Nat} (h:M[i]?=some p):lkx (M.set i ⟨p.x,A,c⟩)=lkx M:=by
 unfold lkx
 rw [List.map_set]
 obtain ⟨hi,e⟩:=List.getElem?_eq_some_iff.1 h
 have hi2:i<(M.map (·.x)).length:=by simpa using hi
 have h2:=List.set_getElem_self hi2
 have:(M.map (·.x))[i]=p.x:=by simp [e]
 rw [this] at h2
 exact h2
theorem CpPost.low {N:List Ndr} {L:List Lkr} {w0 w w':World} {u:Value} (h:CpPost N L w u w') (hb:Below w0.heap.size w0 w):CpPost N L w0 u w':=by
 obtain ⟨NM,LM,A,B,c,d,e1,e2,e3,hr,hb2⟩:=h
 exact ⟨NM,LM,A,B,c,d,e1,e2,e3,hr.lower hb.size,zA1 hb hb2⟩
noncomputable def apN (N:List Ndr) (L:List Lkr) (c:Chr):List Ndr:=if apE N L c=0 then opN N c else []
noncomputable def apL (N:List Ndr) (L:List Lkr) (c:Chr):List Lkr:=if apE N L c=0 then opL L c else []
def ApPost (N:List Ndr) (L:List Lkr) (c:Chr) (w:World) (e:Ending) (w':World):Prop:=∃u,e= .returned (.tuple #[u,.int .i64 (apE N L c)])∧CpPost (apN N L c) (apL N L c) w u w'
theorem cp_nil {w w':World} (h:Below w.heap.size w w'):CpPost [] [] w (.agg #[.slice none 0 0,.slice none 0 0]) w':=
 ⟨[],[],none,none,0,0,rfl,rfl,rfl,⟨World.ownsRow_nil _ _ _ _,World.ownsRow_nil _ _ _ _,fun p hp=>absurd hp (by simp),fun p hp=>absurd hp (by simp)⟩,h⟩
theorem zF0 {N:List Ndr} {L:List Lkr} {c:Chr} {w w':World} {e:Ending} {k:Int} (hk:k≠0) (ha:apE N L c=k) (he:e= .returned (.tuple #[.agg #[.slice none 0 0,.slice none 0 0],.int .i64 k])) (hb:Below w.heap.size w w'):ApPost N L c w e w':=by
 refine ⟨_,by rw [ha];exact he,?_⟩
 unfold apN apL
 rw [if_neg (by omega),if_neg (by omega)]
 exact cp_nil hb
theorem ap_fine {N:List Ndr} {L:List Lkr} {c:Chr} {w w':World} {e:Ending} {u:Value} (ha:apE N L c=0) (he:e= .returned (.tuple #[u,.int .i64 0])) (hb:CpPost (opN N c) (opL L c) w u w'):ApPost N L c w e w':=by
 refine ⟨_,by rw [ha];exact he,?_⟩
 unfold apN apL
 rw [if_pos ha,if_pos ha]
 exact hb
theorem apE_k {N:List Ndr} {L:List Lkr} {c:Chr} (h:¬(1≤c.kd∧c.kd≤6)):apE N L c=11:=by unfold apE;rw [if_pos h]
theorem apE_15 {N:List Ndr} {L:List Lkr} {c:Chr} (h:(c.kd=1∧hasN N c.x.nm)∨(c.kd=4∧hasL L c.l.nm)):apE N L c=15:=by
 unfold apE;rw [if_neg (show¬¬(1≤c.kd∧c.kd≤6) by omega),if_pos h]
theorem apE_9 {N:List Ndr} {L:List Lkr} {c:Chr} (h:((c.kd=2∨c.kd=3)∧¬hasN N c.x.nm)∨((c.kd=5∨c.kd=6)∧¬hasL L c.l.nm)):apE N L c=9:=by
 unfold apE;rw [if_neg (show¬¬(1≤c.kd∧c.kd≤6) by omega),if_neg (show¬((c.kd=1∧hasN N c.x.nm)∨(c.kd=4∧hasL L c.l.nm)) by omega),if_pos h]
theorem apE_13 {N:List Ndr} {L:List Lkr} {c:Chr} (h:c.kd=3) (h2:hasN N c.x.nm) (h3:zF8 L c.x.nm):apE N L c=13:=by
 unfold apE
 rw [if_neg (show¬¬(1≤c.kd∧c.kd≤6) by omega),if_neg (show¬((c.kd=1∧hasN N c.x.nm)∨(c.kd=4∧hasL L c.l.nm)) by omega),if_neg (show¬(((c.kd=2∨c.kd=3)∧¬hasN N c.x.nm)∨((c.kd=5∨c.kd=6)∧¬hasL L c.l.nm)) by rintro (⟨_,q⟩|⟨q,_⟩);exact q h2;omega),if_pos ⟨h,h3⟩]
theorem apE_4 {N:List Ndr} {L:List Lkr} {c:Chr} (h:(c.kd=1∧¬hasN N c.x.nm∧300≤N.length)∨(c.kd=4∧¬hasL L c.l.nm∧400≤L.length)):apE N L c=4:=by
 unfold apE
 rw [if_neg (show¬¬(1≤c.kd∧c.kd≤6) by omega),if_neg,if_neg (show¬(((c.kd=2∨c.kd=3)∧¬hasN N c.x.nm)∨((c.kd=5∨c.kd=6)∧¬hasL L c.l.nm)) by omega),if_neg (by omega),if_pos]
 ·rcases h with ⟨a,_,b⟩|⟨a,_,b⟩
  ·exact .inl ⟨a,b⟩
  ·exact .inr ⟨a,b⟩
 ·rintro (⟨a,b⟩|⟨a,b⟩)
  ·rcases h with ⟨_,h,_⟩|⟨h,_⟩
   ·exact h b
   ·omega
  ·rcases h with ⟨h,_⟩|⟨_,h,_⟩
   ·omega
   ·exact h b
structure ApP (N:List Ndr) (L:List Lkr) (c:Chr):Prop where
 kd:1≤c.kd∧c.kd≤6
 a1:c.kd=1→¬hasN N c.x.nm
 a2:c.kd=2∨c.kd=3→hasN N c.x.nm
 a4:c.kd=4→¬hasL L c.l.nm
 a5:c.kd=5∨c.kd=6→hasL L c.l.nm
 jo:c.kd=3→¬zF8 L c.x.nm
 f1:c.kd=1→N.length<300
 f4:c.kd=4→L.length<400
open Classical in
theorem apE_v {N:List Ndr} {L:List Lkr} {c:Chr} (h:ApP N L c):apE N L c=if netV (opN N c) (opL L c) then 0 else 25:=by
 unfold apE
 rw [if_neg (by simpa using h.kd),if_neg,if_neg,if_neg,if_neg]
 ·by_cases hv:netV (opN N c) (opL L c)
  ·rw [if_neg (by simpa using hv),if_pos hv]
  ·rw [if_pos hv,if_neg hv]
 ·rintro (⟨a,b⟩|⟨a,b⟩)
  ·have:=h.f1 a;omega
  ·have:=h.f4 a;omega
 ·rintro ⟨a,b⟩;exact h.jo a b
 ·rintro (⟨a,b⟩|⟨a,b⟩)
  ·exact b (h.a2 a)
  ·exact b (h.a5 a)
 ·rintro (⟨a,b⟩|⟨a,b⟩)
  ·exact h.a1 a b
  ·exact h.a4 a b
theorem apE_25 {N:List Ndr} {L:List Lkr} {c:Chr} (h:ApP N L c) (hv:¬netV (opN N c) (opL L c)):apE N L c=25:=by rw [apE_v h,if_neg hv]
theorem apE_0 {N:List Ndr} {L:List Lkr} {c:Chr} (h:ApP N L c) (hv:netV (opN N c) (opL L c)):apE N L c=0:=by rw [apE_v h,if_pos hv]
theorem zK8 {N:List Ndr} {L:List Lkr} {c:Chr} {n9 m9:Nat} {D9:Nds} {K9:Lks} {w w':World} {e:Ending} (h:ApP N L c) (e1:recN D9 n9=opN N c) (e2:recL K9 m9=opL L c) (hv:¬netP D9 n9 K9 m9) (he:e= .returned (.tuple #[.agg #[.slice none 0 0,.slice none 0 0],.int .i64 25])) (hb:Below w.heap.size w w'):ApPost N L c w e w':=
 zF0 (by decide) (apE_25 h fun q=>hv (netP_of (by rw [e1,e2];exact q))) he hb
theorem zH5 {N:List Ndr} {L:List Lkr} {c:Chr} {n9 m9:Nat} {D9:Nds} {K9:Lks} {w w':World} {e:Ending} {u:Value} (h:ApP N L c) (e1:recN D9 n9=opN N c) (e2:recL K9 m9=opL L c) (hv:netP D9 n9 K9 m9) (he:e= .returned (.tuple #[u,.int .i64 0])) (hb:CpPost (recN D9 n9) (recL K9 m9) w u w'):ApPost N L c w e w':=
 ap_fine (apE_0 h (by rw [←e1,←e2];exact netV_of hv)) he (by rw [←e1,←e2];exact hb)
theorem nd_made {w W:World} {B n c:Nat} {A:Option Addr} {NM:List Ndm} (hon:W.ownsRow B 30 9 (.slice A n c) NM.length (nc NM)) (ht:∀p,p∈NM→TabIn w p.A p.x.T.length (kX p.x.T) (kY p.x.T)) (hb:Below w.heap.size w W) (h2:NM.length≤300000):NdIn W A NM.length (ndsM NM):=by
 refine (zI5 (B:=0) (rn:=none) (rl:=none) (zB7 hon (Nat.zero_le _)) (fun p hp=>⟨(ht p hp).below (nl _) hb,fun _ b _ _=>⟨Nat.zero_le _,by simp,by simp⟩⟩) h2).2
theorem lk_made {w W:World} {B n c:Nat} {A:Option Addr} {LM:List Lkm} (hon:W.ownsRow B 32 11 (.slice A n c) LM.length (lc LM)) (ht:∀p,p∈LM→TabIn w p.A p.x.T.length (kX p.x.T) (kY p.x.T)) (hb:Below w.heap.size w W) (h2:LM.length≤300000):LkIn W A LM.length (lksM LM):=by
 refine (zG6 (B:=0) (rn:=none) (rl:=none) (zB7 hon (Nat.zero_le _)) (fun p hp=>⟨(ht p hp).below (nl _) hb,fun _ b _ _=>⟨Nat.zero_le _,by simp,by simp⟩⟩) h2).2
theorem zB3 {w W:World} {A:Option Addr} {n:Nat} {D:Nds} (h:NdIn w A n D) (hb:Below w.heap.size w W):NdIn W A n D:=h.below (nl _) hb
theorem zB1 {w W:World} {A:Option Addr} {n:Nat} {D:Lks} (h:LkIn w A n D) (hb:Below w.heap.size w W):LkIn W A n D:=h.below (nl _) hb
theorem zE2 {D:Nds} {n:Nat} {s:ByteArray} (h:fnd D.Nm n s= -1):¬hasN (recN D n) s:=by rw [hasN_fn,zQ5,h];omega
theorem zE1 {D:Nds} {n k:Nat} {s:ByteArray} (h:fnd D.Nm n s=(k:Int)):hasN (recN D n) s:=by rw [hasN_fn,zQ5,h];omega
theorem zI8 {D:Lks} {n:Nat} {s:ByteArray} (h:fnd D.Nm n s= -1):¬hasL (recL D n) s:=by rw [hasL_fn,zQ6,h];omega
theorem zN0 {D:Lks} {n k:Nat} {s:ByteArray} (h:fnd D.Nm n s=(k:Int)):hasL (recL D n) s:=by rw [hasL_fn,zQ6,h];omega
theorem zX0 (a b:List Ndm):ndx (a++b)=ndx a++ndx b:=by unfold ndx;rw [List.map_append]
theorem zX2 (a b:List Lkm):lkx (a++b)=lkx a++lkx b:=by unfold lkx;rw [List.map_append]
theorem ndx_sett (a:List Ndm) (i:Nat) (p:Ndm):ndx (a.set i p)=(ndx a).set i p.x:=by unfold ndx;rw [List.map_set]
theorem lkx_sett (a:List Lkm) (i:Nat) (p:Lkm):lkx (a.set i p)=(lkx a).set i p.x:=by unfold lkx;rw [List.map_set]
theorem zU1 {α β:Type} (f:α→β):∀(L:List α) (i:Nat),(L.eraseIdx i).map f=(L.map f).eraseIdx i
 |[],_=>rfl
 |a::L,0=>rfl
 |a::L,i+1=>by show f a::(L.eraseIdx i).map f=f a::(L.map f).eraseIdx i;rw [zU1 f L i]
theorem ndx_erase (a:List Ndm) (i:Nat):ndx (a.eraseIdx i)=(ndx a).eraseIdx i:=by unfold ndx;rw [zU1]
theorem lkx_erase (a:List Lkm) (i:Nat):lkx (a.eraseIdx i)=(lkx a).eraseIdx i:=by unfold lkx;rw [zU1]
theorem rec_add {D C:Nds} {n i:Nat} {kd:Int} {E:Lks} {j:Nat} (hk:kd=1):recN (ndsM (nmO D n++[ndC C i (C.SA i) (C.SC i)])) (n+1)=opN (recN D n) (chrR kd C i E j):=by
 have h:=zS3 (nmO D n++[ndC C i (C.SA i) (C.SC i)])
 rw [List.length_append,zE5] at h
 rw [show n+1=n+[ndC C i (C.SA i) (C.SC i)].length from rfl,h,zX0,ndx_nmO,opN_1 hk]
 rfl
theorem recL_add {D C:Lks} {n i:Nat} {kd:Int} {E:Nds} {j:Nat} (hk:kd=4):recL (lksM (lmO D n++[lkC C i (C.CA i) (C.CC i)])) (n+1)=opL (recL D n) (chrR kd E j C i):=by
 have h:=zS5 (lmO D n++[lkC C i (C.CA i) (C.CC i)])
 rw [List.length_append,zE6] at h
 rw [show n+1=n+[lkC C i (C.CA i) (C.CC i)].length from rfl,h,zX2,lkx_lmO,opL_4 hk]
 rfl
theorem rec_set {D C:Nds} {n i at':Nat} {kd:Int} {E:Lks} {j:Nat} (hk:kd=2) (ha:fnd D.Nm n (C.Nm i)=(at':Int)):recN (ndsM ((nmO D n).set at' (ndC C i (C.SA i) (C.SC i)))) n=opN (recN D n) (chrR kd C i E j):=by
 have h:=zS3 ((nmO D n).set at' (ndC C i (C.SA i) (C.SC i)))
 rw [List.length_set,zE5] at h
 rw [h,ndx_sett,ndx_nmO,opN_2 hk,show (chrR kd C i E j).x.nm=C.Nm i from rfl,zQ5,ha,Int.toNat_natCast]
 rfl
theorem recL_set {D C:Lks} {n i at':Nat} {kd:Int} {E:Nds} {j:Nat} (hk:kd=5) (ha:fnd D.Nm n (C.Nm i)=(at':Int)):recL (lksM ((lmO D n).set at' (lkC C i (C.CA i) (C.CC i)))) n=opL (recL D n) (chrR kd E j C i):=by
 have h:=zS5 ((lmO D n).set at' (lkC C i (C.CA i) (C.CC i)))
 rw [List.length_set,zE6] at h
 rw [h,lkx_sett,lkx_lmO,opL_5 hk,show (chrR kd E j C i).l.nm=C.Nm i from rfl,zQ6,ha,Int.toNat_natCast]
 rfl
theorem rec_del {D C:Nds} {n i at':Nat} {kd:Int} {E:Lks} {j:Nat} (hk:kd=3) (ha:fnd D.Nm n (C.Nm i)=(at':Int)) (hl:at'<n):recN (ndsM ((nmO D n).eraseIdx at')) (n - 1)=opN (recN D n) (chrR kd C i E j):=by
 have h:=zS3 ((nmO D n).eraseIdx at')
 rw [List.length_eraseIdx,zE5,if_pos hl] at h
 rw [h,ndx_erase,ndx_nmO,opN_3 hk,show (chrR kd C i E j).x.nm=C.Nm i from rfl,zQ5,ha,Int.toNat_natCast]
theorem recL_del {D C:Lks} {n i at':Nat} {kd:Int} {E:Nds} {j:Nat} (hk:kd=6) (ha:fnd D.Nm n (C.Nm i)=(at':Int)) (hl:at'<n):recL (lksM ((lmO D n).eraseIdx at')) (n - 1)=opL (recL D n) (chrR kd E j C i):=by
 have h:=zS5 ((lmO D n).eraseIdx at')
 rw [List.length_eraseIdx,zE6,if_pos hl] at h
 rw [h,lkx_erase,lkx_lmO,opL_6 hk,show (chrR kd E j C i).l.nm=C.Nm i from rfl,zQ6,ha,Int.toNat_natCast]
theorem add_tabs {w:World} {A:Option Addr} {n i:Nat} {D C:Nds} (h:NdIn w A n D) (ht:TabIn w (C.SA i) (C.SN i) (C.SX i) (C.SY i)):∀p,p∈nmO D n++[ndC C i (C.SA i) (C.SC i)]→TabIn w p.A p.x.T.length (kX p.x.T) (kY p.x.T):=fun p hp=>by
 rcases List.mem_append.1 hp with hp |hp
 ·exact zS2 h p hp
 ·rw [List.mem_singleton.1 hp];exact zC2 ht
theorem addL_tabs {w:World} {A:Option Addr} {n i:Nat} {D C:Lks} (h:LkIn w A n D) (ht:TabIn w (C.CA i) (C.CN i) (C.CX i) (C.CY i)):∀p,p∈lmO D n++[lkC C i (C.CA i) (C.CC i)]→TabIn w p.A p.x.T.length (kX p.x.T) (kY p.x.T):=fun p hp=>by
 rcases List.mem_append.1 hp with hp |hp
 ·exact zS4 h p hp
 ·rw [List.mem_singleton.1 hp];exact zC2 ht
theorem set_tabs {w:World} {A:Option Addr} {n i k:Nat} {D C:Nds} (h:NdIn w A n D) (ht:TabIn w (C.SA i) (C.SN i) (C.SX i) (C.SY i)):∀p,p∈(nmO D n).set k (ndC C i (C.SA i) (C.SC i))→TabIn w p.A p.x.T.length (kX p.x.T) (kY p.x.T):=fun p hp=>by
 rcases List.mem_or_eq_of_mem_set hp with hp |hp
 ·exact zS2 h p hp
 ·rw [hp];exact zC2 ht
theorem setL_tabs {w:World} {A:Option Addr} {n i k:Nat} {D C:Lks} (h:LkIn w A n D) (ht:TabIn w (C.CA i) (C.CN i) (C.CX i) (C.CY i)):∀p,p∈(lmO D n).set k (lkC C i (C.CA i) (C.CC i))→TabIn w p.A p.x.T.length (kX p.x.T) (kY p.x.T):=fun p hp=>by
 rcases List.mem_or_eq_of_mem_set hp with hp |hp
 ·exact zS4 h p hp
 ·rw [hp];exact zC2 ht
theorem zR1 {p:Prop}:boolOf p=true↔p:=⟨fun h=>Classical.byContradiction fun q=>Bool.noConfusion ((zA0 q).symm.trans h),fun h=>zA2 h⟩
theorem zE9 {w W:World} {B0 g n m c d:Nat} {NM:List Ndm} {LM:List Lkm} {A B:Option Addr} (h:CpR B0 NM LM (.slice A n c) (.slice B m d) W) (hb:Below w.heap.size w W) (h1:w.heap.size≤g) (h2:g<B0):CpPost (ndx NM) (lkx LM) w (.agg #[.slice A n c,.slice B m d]) ((W.setCell ⟨g,0,none⟩ (.slice A n c)).setCell ⟨g,1,none⟩ (.slice B m d)):=
 ((h.low h2 0 (.slice A n c)).low h2 1 (.slice B m d)).cp (w:=w) (by omega) ((hb.setCell (p:=⟨g,0,none⟩) h1 (.slice A n c)).setCell (p:=⟨g,1,none⟩) h1 (.slice B m d))
theorem map_set_n (D:Nds) (n k:Nat) (p:Ndm):(((nmO D n).map ncm).set k (ncm p)).flatten=nc ((nmO D n).set k p):=by rw [←List.map_set,zF6]
theorem map_set_l (D:Lks) (n k:Nat) (p:Lkm):(((lmO D n).map lcm').set k (lcm' p)).flatten=lc ((lmO D n).set k p):=by rw [←List.map_set,zF7]
theorem map_era_n (D:Nds) (n k:Nat):(((nmO D n).map ncm).eraseIdx k).flatten=nc ((nmO D n).eraseIdx k):=by rw [←zU1,zF6]
theorem map_era_l (D:Lks) (n k:Nat):(((lmO D n).map lcm').eraseIdx k).flatten=lc ((lmO D n).eraseIdx k):=by rw [←zU1,zF7]
open Classical in
noncomputable def dfs {α:Type} (f:Nat→α) (p:α→Prop) (g:α→Chr) (i:Nat):List Chr:=(((List.range i).map f).filter (fun x=>decide (p x))).map g
theorem zJ2 {α:Type} {f:Nat→α} {p:α→Prop} {g:α→Chr} {i:Nat} (h:p (f i)):dfs f p g (i+1)=dfs f p g i++[g (f i)]:=by
 unfold dfs
 rw [List.range_succ,List.map_append,List.filter_append,List.map_append]
 simp [h]
theorem zK7 {α:Type} {f:Nat→α} {p:α→Prop} {g:α→Chr} {i:Nat} (h:¬p (f i)):dfs f p g (i+1)=dfs f p g i:=by
 unfold dfs
 rw [List.range_succ,List.map_append,List.filter_append,List.map_append]
 simp [h]
theorem zV5 {α:Type} (f:Nat→α) (p:α→Prop) (g:α→Chr) (i:Nat):(dfs f p g i).length≤i:=by
 unfold dfs
 rw [List.length_map]
 refine nT (List.length_filter_le _ _) ?_
 simp
def dpL (L':List Lkr) (l:Lkr):Prop:=l∉L'
def dpD (N':List Ndr) (x:Ndr):Prop:=¬hasN N' x.nm
def dpS (N:List Ndr) (x:Ndr):Prop:=hasN N x.nm∧x∉N
def dg1 (l:Lkr):Chr:=dropLc l.nm
def dg2 (x:Ndr):Chr:=zV4 x.nm
def dg3 (x:Ndr):Chr:=⟨2,x,zLk⟩
def dg4 (x:Ndr):Chr:=⟨1,x,zLk⟩
def dg5 (l:Lkr):Chr:=⟨4,zNd,l⟩
noncomputable def ds1 (K:Lks) (L':List Lkr) (i:Nat):List Chr:=dfs (zA5 K) (dpL L') dg1 i
noncomputable def ds2 (D:Nds) (N':List Ndr) (i:Nat):List Chr:=dfs (zA7 D) (dpD N') dg2 i
noncomputable def ds3 (D':Nds) (N:List Ndr) (i:Nat):List Chr:=dfs (zA7 D') (dpS N) dg3 i
noncomputable def ds4 (D':Nds) (N:List Ndr) (i:Nat):List Chr:=dfs (zA7 D') (dpD N) dg4 i
noncomputable def ds5 (K':Lks) (L:List Lkr) (i:Nat):List Chr:=dfs (zA5 K') (dpL L) dg5 i
theorem dfs_eq {α:Type} (f:Nat→α) (p:α→Prop) (g:α→Chr) (i:Nat) (inst:∀x,Decidable (p x)):(((List.range i).map f).filter (fun x=>@decide (p x) (inst x))).map g=dfs f p g i:=by
 unfold dfs
 congr 1
 apply List.filter_congr
 intro x _
 by_cases h:p x<;> simp [h]
theorem ds_df (D D':Nds) (K K':Lks) (n m n' m':Nat):dfF (recN D n) (recL K m) (recN D' n') (recL K' m')=ds1 K (recL K' m') m++(ds2 D (recN D' n') n++(ds3 D' (recN D n) n'++(ds4 D' (recN D n) n'++ds5 K' (recL K m) m'))):=by
 unfold dfF
 exact congr (congrArg HAppend.hAppend (dfs_eq (zA5 K) (dpL (recL K' m')) dg1 m _)) (congr (congrArg HAppend.hAppend (dfs_eq (zA7 D) (dpD (recN D' n')) dg2 n _)) (congr (congrArg HAppend.hAppend (dfs_eq (zA7 D') (dpS (recN D n)) dg3 n' _)) (congr (congrArg HAppend.hAppend (dfs_eq (zA7 D') (dpD (recN D n)) dg4 n' _)) (dfs_eq (zA5 K') (dpL (recL K m)) dg5 m' _))))
theorem at_nm {N:List Ndr} {L:List Lkr} (h:VS N L) {x:Ndr} {k:Nat} (hk:k<N.length) (e:(N.getD k zNd).nm=x.nm):N.getD k zNd=x↔x∈N:=by
 constructor
 ·intro q;rw [←q];exact zC9 hk
 ·intro q;exact zK3 h.nn (zC9 hk) q e
theorem at_lm {N:List Ndr} {L:List Lkr} (h:VS N L) {x:Lkr} {k:Nat} (hk:k<L.length) (e:(L.getD k zLk).nm=x.nm):L.getD k zLk=x↔x∈L:=by
 constructor
 ·intro q;rw [←q];exact zC9 hk
 ·intro q;exact zK3 h.ln (zC9 hk) q e
theorem mem_recL {K:Lks} {m:Nat} {l:Lkr}:l∈recL K m↔∃j,j<m∧zA5 K j=l:=by
 unfold recL
 rw [List.mem_map]
 constructor
 ·rintro ⟨j,hj,e⟩;exact ⟨j,List.mem_range.1 hj,e⟩
 ·rintro ⟨j,hj,e⟩;exact ⟨j,List.mem_range.2 hj,e⟩
theorem TabsC.nil (W:World):TabsC W []:=fun p hp=>absurd hp (by simp)
theorem TabsC.snoc {W:World} {M:List Chm} {p:Chm} (h:TabsC W M) (h1:TabIn W p.x.A p.x.x.T.length (kX p.x.x.T) (kY p.x.x.T)) (h2:TabIn W p.l.A p.l.x.T.length (kX p.l.x.T) (kY p.l.x.T)):TabsC W (M++[p]):=fun q hq=>by
 rcases List.mem_append.1 hq with hq |hq
 ·exact h q hq
 ·rw [List.mem_singleton.1 hq];exact ⟨h1,h2⟩
theorem TabsC.below {W W':World} {M:List Chm} (h:TabsC W M) (hb:Below W.heap.size W W'):TabsC W' M:=fun p hp=>⟨(h p hp).1.below (nl _) hb,(h p hp).2.below (nl _) hb⟩
theorem chx_append (a b:List Chm):chx (a++b)=chx a++chx b:=by unfold chx;rw [List.map_append]
def ChPost (l:List Chr) (w:World) (u:Value) (w':World):Prop:=∃(M:List Chm) (A:Option Addr) (c:Nat),chx M=l∧u= .slice A l.length c∧w'.ownsRow w.heap.size 34 21 u l.length (ccs M)∧TabsC w' M∧Below w.heap.size w w'
theorem ChPost.read {l:List Chr} {w w':World} {u:Value} (h:ChPost l w u w') (hl:l.length≤300000):∃(A:Option Addr) (c:Nat) (Kd:Nat→Int) (D:Nds) (K:Lks),u= .slice A l.length c∧ChsIn w' A l.length Kd D K∧recC Kd D K l.length=l∧Below w.heap.size w w':=by
 obtain ⟨M,A,c,e,rfl,ho,ht,hb⟩:=h
 have hm:M.length=l.length:=by rw [←e];unfold chx;simp
 rw [←hm] at ho hl⊢
 obtain ⟨_,hc⟩:=changes_of ho ht hl
 exact ⟨A,c,_,_,_,rfl,hc,by rw [chx_rec];exact e,hb⟩
end Go.Proofs.YtchakniaoeodmaaGreatDoor

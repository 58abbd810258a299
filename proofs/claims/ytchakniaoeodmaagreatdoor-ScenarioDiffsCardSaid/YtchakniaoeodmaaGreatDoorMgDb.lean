/- Merged texts of these proofs: ScSp,ScCo. -/
import Derived.Test.YtchakniaoeodmaaGreatDoorMgMs
import Derived.Test.YtchakniaoeodmaaGreatDoorMgP
import Derived.Test.YtchakniaoeodmaaGreatDoorMgDa
import Derived.Test.YtchakniaoeodmaaGreatDoorMgAp
import Derived.Test.YtchakniaoeodmaaGreatDoorMgH
import Derived.Deep.MidRow
namespace Go.Proofs.YtchakniaoeodmaaGreatDoor
open Go.RowKit
set_option linter.unusedVariables false
set_option linter.unusedSimpArgs false
set_option maxHeartbeats 2000000 in
theorem sp_equal (A B:Option Addr) (n m c d:Nat) (X Y X' Y':Nat→Int) (w:World) (hA:TabIn w A n X Y) (hB:TabIn w B m X' Y'):
 Calls Tryz.prog 40 #[.slice A n c,.slice B m d] w fun e w'=>e= .returned (.bool (boolOf (zS9 n X Y m X' Y')))∧Below w.heap.size w w':=by
 have HA:=LH hA
 have HB:=LH hB
 have H2:=LH hA.1
 obtain ⟨f,hf⟩:∃f,Hid (f=boolOf (zS9 n X Y m X' Y')):=⟨_,rfl⟩
 rw [←hf.out]
 by_cases hnm:n=m
 case neg=>
  obtain rfl:f=false:=by rw [hf.out];exact zA0 fun h=>hnm h.1
  have t1:(n==m)=false:=by simpa using hnm
  have t2:(n !=m)=true:=by simpa using hnm
  have t3:((n:Int)==(m:Int))=false:=by rw [beq_eq_false_iff_ne];omega
  have t4:((n:Int)!=(m:Int))=true:=by simp;omega
  clear hA hB hnm hf
  go_enter Tryz.func40,Tryz.ntmps40
  go_wp2_with fail
  go_ret
  exact ⟨rfl,bR _ _⟩
 case pos=>
 subst hnm
 clear hA hB
 go_enter Tryz.func40,Tryz.ntmps40
 go_wp2_with fail
 go_loopw [13] (fun u wr=>∃i:Nat,Hid (i≤n)∧u= .int .i64 i∧Hid (∀j,j<i→X j=X' j∧Y j=Y' j)∧Hid (Below w.heap.size w wr)) (fun u _=>n - (RowKit.intOf u).toNat)
 case atStart=>exact ⟨0,Nat.zero_le _,rfl,fun j hj=>absurd hj (Nat.not_lt_zero _),bR _ _⟩
 case round=>
  obtain ⟨i,Hi,rfl,HG,HW⟩:=hrel
  by_cases hlt:i<n
  ·have T0:decide ((i:Int)<(n:Int))=true:=by simp<;> omega
   have T0':decide (i<n)=true:=dU hlt
   obtain ⟨i',hi'⟩:∃z,z=i+1:=⟨_,rfl⟩
   have x0:IntKind.i64.wrap ((i:Int)+1)=(i':Int):=by have:=H2.out;rw [IntKind.wrap_i64];omega
   have HI':Hid (i'≤n):=by show i'≤n;omega
   have HMS:Hid (n - (RowKit.intOf (Value.int .i64 (i':Int))).toNat<n - (RowKit.intOf (Value.int .i64 (i:Int))).toNat):=by show _<_;simp [RowKit.intOf];omega
   have k0:(0:Int)≤(i:Int):=by omega
   have k1:(i:Int)<(n:Int):=by omega
   obtain ⟨b1,o1,rfl,hb1,p0,p1⟩:=(HA.out.below (nl _) HW.out).at hlt
   obtain ⟨b2,o2,rfl,hb2,q0,q1⟩:=(HB.out.below (nl _) HW.out).at hlt
   have HLT:=LH hlt
   have HST:Hid (X i=X' i∧Y i=Y' i→∀j,j<i'→X j=X' j∧Y j=Y' j):=fun h j hj=>by
        rcases Nat.lt_or_ge j i with g |g
        ·exact HG.out j g
        ·have:j=i:=by omega
         rw [this];exact h
   have HNO:Hid (¬(X i=X' i∧Y i=Y' i)→f=false):=fun h=>by
        rw [hf.out];exact zA0 fun g=>h (g.2 i HLT.out)
   generalize X i=x at p0 HST HNO
   generalize Y i=y at p1 HST HNO
   generalize X' i=x' at q0 HST HNO
   generalize Y' i=y' at q1 HST HNO
   clear hi' hlt
   by_cases hx:x=x'
   ·subst hx
    by_cases hy:y=y'
    ·subst hy
     go_wp2_with fail
     go_quiet (fail)
     go_wp2_with fail
     go_roundw
     case rel=>exact ⟨i',HI',rfl,HST.out (by simp),zD0 HW.out _⟩
     case measure=>exact HMS.out
    ·have t1:(y==y')=false:=by simpa using hy
     have t2:(y !=y')=true:=by simpa using hy
     obtain rfl:f=false:=HNO.out (by simpa using hy)
     clear hy
     go_wp2_with fail
     go_quiet (fail)
     go_wp2_with fail
     go_ret
     exact ⟨rfl,zD0 HW.out _⟩
   ·have t1:(x==x')=false:=by simpa using hx
    have t2:(x !=x')=true:=by simpa using hx
    obtain rfl:f=false:=HNO.out fun h=>hx h.1
    clear hx
    go_wp2_with fail
    go_quiet (fail)
    go_wp2_with fail
    go_ret
    exact ⟨rfl,zD0 HW.out _⟩
  ·have hin:i=n:=by have:=Hi.out;omega
   have T0:decide ((i:Int)<(n:Int))=false:=by simp<;> omega
   have T0':decide (i<n)=false:=dF hlt
   obtain rfl:f=true:=by rw [hf.out];exact zA2 ⟨rfl,by rw [←hin];exact HG.out⟩
   clear hlt hin
   go_wp2_with fail
   go_ret
   exact ⟨rfl,HW.out⟩
theorem infoSp:(Tryz.prog.info? 87).map (fun i=>(i.zero,i.size,i.bytes))=some (some (.agg #[.int .i64 0,.int .i64 0]),2,16):=by kernel_rfl
def SpO (base:Nat) (M:List (Int×Int)) (v:Value) (w:World):Prop:=w.ownsRow base 87 2 v M.length (kc M)
theorem SpO.nil (base:Nat) (w:World):SpO base [] (.slice none 0 0) w:=World.ownsRow_nil _ _ _ _
theorem SpO.form {base:Nat} {M:List (Int×Int)} {v:Value} {w:World} (h:SpO base M v w):∃A c,v= .slice A M.length c:=by
 rcases h.2 with ⟨hv,h0⟩|⟨g,cap',cur,hv,_,_,_,_⟩
 ·exact ⟨none,0,by rw [hv,h0]⟩
 ·exact ⟨_,_,hv⟩
theorem SpO.tab {base:Nat} {M:List (Int×Int)} {A:Option Addr} {n c:Nat} {w:World} (h:SpO base M (.slice A n c) w) (hb:M.length≤3000):n=M.length∧TabIn w A n (kX M) (kY M):=by
 have h':=h
 rcases h.2 with ⟨hv,h0⟩|⟨g,cap',cur,hv,_,_,_,_⟩
 ·injection hv with _ e _
  exact ⟨by rw [h0];exact e,by rw [e];exact ⟨by omega,.inl rfl⟩⟩
 ·injection hv with hA e hc
  subst hA
  subst e
  subst hc
  exact ⟨rfl,by omega,.inr ⟨g,0,rfl,tab_of_kc h'⟩⟩
theorem wpList_append_sp {w:World} {ops:Array Oper} {rest:List Oper} {o:Oper} {a:Act} {Q:Exit→Act→World→Prop} (hgd:o.guard=none) (s x:Operand)
 (ho:o.op= .call { callee:=.builtin .append,args:=#[s,x],argTypes:=#[80,80] })
 (base:Nat) (v:Value) (M:List (Int×Int)) (hs:a.eval s=v) (hown:SpO base M v w) (g:Nat) (p q:Int) (hx:a.eval x= .slice (some ⟨g,0,none⟩) 1 1) (hb:Blk w g 87 #[.int .i64 p,.int .i64 q]) (h2:M.length≤20000) (w0:World) (hb0:Below base w0 w) (hbase:base≤w0.heap.size)
 (h:∀A c w',SpO base (M++[(p,q)]) (.slice A (M++[(p,q)]).length c) w'→Below base w0 w'→w.grownBy w' v.ownBlock→wpList Tryz.prog ops Q rest (a.put o.dst (.slice A (M++[(p,q)]).length c)) w'):
 wpList Tryz.prog ops Q (o::rest) a w:=by
 obtain ⟨i,hi,hz0,hz1,hz2⟩:=info_partsC infoSp
 have hm:M.length+1≤maxLen:=by unfold maxLen;omega
 have hbw:base≤w.heap.size:=nT hbase hb0.size
 refine wpList_append_own_at _ hgd s x 80 ho base 87 i _ 2 16 Tryz.underlying80 hi hz0 hz1 hz2 rfl (by decide) v M.length (kc M) hs hown ⟨g,0,none⟩ 1 1 [.int .i64 p,.int .i64 q] hx rfl (fun j u hj=>?_) (by intro u hu;simp at hu;rcases hu with rfl |rfl<;> rfl) hm (by omega) hbw ?_
 ·have:=hb.cells j u hj
  rwa [show (⟨g,0,none⟩:Addr).add j=⟨g,0+j,none⟩ from zU6 g 0 j]
 ·intro v' w' ho1 hg _ hat
  have hl:(M++[(p,q)]).length=M.length+1:=by simp
  have hk:kc (M++[(p,q)])=kc M++[.int .i64 p,.int .i64 q]:=by simp [kc]
  rw [←hk,←hl] at ho1
  obtain ⟨g2,c2,rfl,_,_⟩:=ho1.form (by simp)
  exact h _ c2 w' ho1 (zA9 hb0 hbw hg fun q e=>(hown.lt q e).1) hg
def loF (f:Nat→Int):Nat→Int
 |0=>f 0
 |i+1=>min (loF f i) (f i)
def hiF (f:Nat→Int):Nat→Int
 |0=>f 0
 |i+1=>max (hiF f i) (f i)
def dfV (S T:Sts) (k i:Nat):Int:=T.V i k - S.V i k
def cmpL (S T:Sts) (n k:Nat):List (Int×Int):=(List.range k).map fun q=>(loF (dfV S T q) n,hiF (dfV S T q) n)
theorem cmpL_len (S T:Sts) (n k:Nat):(cmpL S T n k).length=k:=by simp [cmpL]
theorem cmpL_succ (S T:Sts) (n k:Nat):cmpL S T n (k+1)=cmpL S T n k++[(loF (dfV S T k) n,hiF (dfV S T k) n)]:=by unfold cmpL;rw [List.range_succ,List.map_append];rfl
def ragP (S T:Sts) (n:Nat):Prop:=∃k,k<n∧(S.VN k≠S.VN 0∨T.VN k≠S.VN 0)
def rngP (S T:Sts) (n:Nat):Prop:=∃k,k<n∧((∃j,j<S.VN k∧badV (S.V k j))∨∃j,j<T.VN k∧badV (T.V k j))
noncomputable def cmE (S T:Sts) (n n':Nat):Int:=@ite _ (n≠n'∨ragP S T n) (Classical.propDecidable _) 3 (if n=0 then 14 else @ite _ (rngP S T n) (Classical.propDecidable _) 2 0)
noncomputable def cmL (S T:Sts) (n n':Nat):List (Int×Int):=if cmE S T n n'=0 then cmpL S T n (S.VN 0) else []
def CmPost (M:List (Int×Int)) (er:Int) (w:World) (e:Ending) (w':World):Prop:=∃v,e= .returned (.tuple #[v,.int .i64 er])∧SpO w.heap.size M v w'∧Below w.heap.size w w'
theorem cm_err {M:List (Int×Int)} {er:Int} {w w':World} {e:Ending} (hM:M=[]) (he:e= .returned (.tuple #[.slice none 0 0,.int .i64 er])) (hb:Below w.heap.size w w'):CmPost M er w e w':=by
 subst hM
 exact ⟨_,he,SpO.nil _ _,hb⟩
theorem cmL_no {S T:Sts} {n n':Nat} {er:Int} (h:cmE S T n n'=er) (h0:er≠0):cmL S T n n'=[]:=if_neg (by rw [h];exact h0)
theorem cmE_3 {S T:Sts} {n n':Nat} (h:n≠n'∨ragP S T n):cmE S T n n'=3:=if_pos h
theorem cmE_14 {S T:Sts}:cmE S T 0 0=14:=by
 unfold cmE
 rw [if_neg (fun h=>h.elim (fun q=>q rfl) fun ⟨k,hk,_⟩=>by omega),if_pos rfl]
theorem cmE_2 {S T:Sts} {n:Nat} (h1:¬ragP S T n) (h0:n≠0) (h2:rngP S T n):cmE S T n n=2:=by
 unfold cmE
 rw [if_neg (fun h=>h.elim (fun q=>q rfl) h1),if_neg h0,if_pos h2]
theorem cmE_0 {S T:Sts} {n:Nat} (h1:¬ragP S T n) (h0:n≠0) (h2:¬rngP S T n):cmE S T n n=0:=by
 unfold cmE
 rw [if_neg (fun h=>h.elim (fun q=>q rfl) h1),if_neg h0,if_neg h2]
theorem dfV_bd {S T:Sts} {n k i:Nat} (h1:¬ragP S T n) (h2:¬rngP S T n) (hi:i<n) (hk:k<S.VN 0):0≤S.V i k∧S.V i k≤1125899906842624∧0≤T.V i k∧T.V i k≤1125899906842624:=by
 have a1:S.VN i=S.VN 0:=Classical.byContradiction fun q=>h1 ⟨i,hi,.inl q⟩
 have a2:T.VN i=S.VN 0:=Classical.byContradiction fun q=>h1 ⟨i,hi,.inr q⟩
 have b1:¬badV (S.V i k):=fun q=>h2 ⟨i,hi,.inl ⟨k,by omega,q⟩⟩
 have b2:¬badV (T.V i k):=fun q=>h2 ⟨i,hi,.inr ⟨k,by omega,q⟩⟩
 unfold badV at b1 b2
 omega
theorem st_vol {w:World} {b off n i k m:Nat} {S:Sts} (h:StAt w b off n S) (hi:i<n) (hm:S.VN i=m) (hk:k<m):∃b1 o1 c1,w.cell? ⟨b,off+i*4,none⟩=some (.slice (some ⟨b1,o1,none⟩) m c1)∧w.cell? ⟨b1,o1+k,none⟩=some (.int .i64 (S.V i k)):=by
 obtain ⟨hc,hl⟩:=h.2 i hi
 obtain ⟨b1,o1,hA,_,hx⟩:=hl.1.at (by rw [hm];exact hk)
 refine ⟨b1,o1,S.VC i,?_,hx⟩
 have h0:=hc 0 _ (rfl:(S.vals i)[0]?=_)
 rw [Nat.add_zero,hA,hm] at h0
 exact h0
theorem st_len {w:World} {b off n i m:Nat} {S:Sts} (h:StAt w b off n S) (hi:i<n) (hm:S.VN i=m):∃A c1,w.cell? ⟨b,off+i*4,none⟩=some (.slice A m c1):=by
 obtain ⟨hc,hl⟩:=h.2 i hi
 have h0:=hc 0 _ (rfl:(S.vals i)[0]?=_)
 rw [Nat.add_zero,hm] at h0
 exact ⟨_,_,h0⟩
theorem StAt.below {w w':World} {b off n:Nat} {S:Sts} (h:StAt w b off n S) (hb:Below w.heap.size w w'):StAt w' b off n S:=⟨Nat.lt_of_lt_of_le h.1 hb.size,fun k hk=>⟨(h.2 k hk).1.below hb h.1,(h.2 k hk).2.below (nl _) hb⟩⟩
theorem StIn.st {w:World} {A:Option Addr} {n:Nat} {S:Sts} (h:StIn w A n S) (hn:n≠0):∃b off,A=some ⟨b,off,none⟩∧StAt w b off n S:=by
 rcases h.2 with h0 |h1
 ·exact absurd h0 hn
 ·exact h1
theorem cat_vn {S T:Sts} {n k:Nat}:(S.cat T n).VN k=if k<n then S.VN k else T.VN (k - n):=rfl
theorem cat_rag {S T:Sts} {n N:Nat} (hN:N=n+n) (h0:0<n):(∃k,k<N∧(S.cat T n).VN k≠(S.cat T n).VN 0)↔ragP S T n:=by
 have e0:(S.cat T n).VN 0=S.VN 0:=by rw [cat_vn,if_pos h0]
 rw [e0]
 constructor
 ·rintro ⟨k,hk,h⟩
  rw [cat_vn] at h
  by_cases q:k<n
  ·rw [if_pos q] at h
   exact ⟨k,q,.inl h⟩
  ·rw [if_neg q] at h
   exact ⟨k - n,by omega,.inr h⟩
 ·rintro ⟨k,hk,h |h⟩
  ·exact ⟨k,by omega,by rw [cat_vn,if_pos hk];exact h⟩
  ·exact ⟨n+k,by omega,by rw [cat_vn,if_neg (by omega),show n+k - n=k by omega];exact h⟩
theorem cat_rng {S T:Sts} {n N:Nat} (hN:N=n+n):(∃k,k<N∧boolOf (∃j,j<(S.cat T n).VN k∧badV ((S.cat T n).V k j))=true)↔rngP S T n:=by
 have ev:∀k,(S.cat T n).V k=if k<n then S.V k else T.V (k - n):=fun k=>rfl
 constructor
 ·rintro ⟨k,hk,h⟩
  have h:=zR1.1 h
  obtain ⟨j,hj,hb⟩:=h
  rw [cat_vn] at hj
  rw [ev] at hb
  by_cases q:k<n
  ·rw [if_pos q] at hj hb
   exact ⟨k,q,.inl ⟨j,hj,hb⟩⟩
  ·rw [if_neg q] at hj hb
   exact ⟨k - n,by omega,.inr ⟨j,hj,hb⟩⟩
 ·rintro ⟨k,hk,⟨j,hj,hb⟩|⟨j,hj,hb⟩⟩
  ·exact ⟨k,by omega,zA2 ⟨j,by rw [cat_vn,if_pos hk];exact hj,by rw [ev,if_pos hk];exact hb⟩⟩
  ·exact ⟨n+k,by omega,zA2 ⟨j,by rw [cat_vn,if_neg (by omega),show n+k - n=k by omega];exact hj,by rw [ev,if_neg (by omega),show n+k - n=k by omega];exact hb⟩⟩
theorem stl_all {w:World} {b off b2 off2 n:Nat} {S T:Sts} (h1:StAt w b off n S) (h2:StAt w b2 off2 n T):∀k,k<n+n→StL w (S.cat T n) k:=fun k hk=>by
 by_cases q:k<n
 ·exact catL_l q (h1.2 k q).2
 ·have h:=catL_r (S:=S) (n:=n) (h2.2 (k - n) (by omega)).2
  rwa [show n+(k - n)=k by omega] at h
set_option maxRecDepth 100000 in
set_option maxHeartbeats 16000000 in
theorem sc_cmp_size (A B:Option Addr) (n c n' d:Nat) (S T:Sts) (w:World) (hn:n≠n'):
 Calls Tryz.prog 38 #[.slice A n c,.slice B n' d] w (CmPost (cmL S T n n') (cmE S T n n') w):=by
 have he:=cmE_3 (S:=S) (T:=T) (.inl hn:n≠n'∨ragP S T n)
 have HL:=LH (cmL_no he (by decide))
 rw [he]
 have t1:((n:Int)!=(n':Int))=true:=by simp;omega
 have t2:(n !=n')=true:=by simpa using hn
 have t3:((n:Int)==(n':Int))=false:=by rw [beq_eq_false_iff_ne];omega
 clear hn he
 go_enter Tryz.func38,Tryz.ntmps38
 go_wp2_with fail
 go_ret2
 exact cm_err HL.out rfl (bR _ _)
set_option maxRecDepth 100000 in
set_option maxHeartbeats 16000000 in
theorem sc_cmp_none (A B:Option Addr) (c d:Nat) (S T:Sts) (w:World):
 Calls Tryz.prog 38 #[.slice A 0 c,.slice B 0 d] w (CmPost (cmL S T 0 0) (cmE S T 0 0) w):=by
 have HL:=LH (cmL_no (cmE_14 (S:=S) (T:=T)) (by decide))
 rw [cmE_14]
 have HX:Hid (Blk (w.alloc (Obj.cells #[.slice A 0 c,.slice B 0 d] 73)) w.heap.size 73 #[.slice A 0 c,.slice B 0 d]):=Blk.new _ _ _
 have HAL:Hid (Below w.heap.size w (w.alloc (Obj.cells #[.slice A 0 c,.slice B 0 d] 73))):=(bR _ w).alloc (nl _) _
 have SC:=LH (sconcat0 w.heap.size A B c d (w.alloc (Obj.cells #[.slice A 0 c,.slice B 0 d] 73)) HX.out.lt (HX.out.cell 0) (HX.out.cell 1))
 go_enter Tryz.func38,Tryz.ntmps38
 go_wp2_with (first
  |(go_at_call 81
    with_reducible refine SC.out.mono ?_
    rintro e w4 ⟨rfl,hb4⟩
    have HB4:=LH (zA1 HAL.out hb4)
    clear hb4))
 go_loopw [26] (fun u wr=>u= .int .i64 0∧wr=w4) (fun _ _=>0)
 case atStart=>exact ⟨rfl,rfl⟩
 case round=>
  obtain ⟨rfl,rfl⟩:=hrel
  go_wp2_with fail
  go_ret2
  exact cm_err HL.out rfl HB4.out
set_option maxRecDepth 100000 in
set_option maxHeartbeats 32000000 in
theorem sc_cmp_all (b off b2 off2 n c d:Nat) (S T:Sts) (w:World) (h0:n≠0) (h12:n≤12) (hS:StAt w b off n S) (hT:StAt w b2 off2 n T) (hv:∀k,k<n→S.VN k≤12) (hv':∀k,k<n→T.VN k≤12):
 Calls Tryz.prog 38 #[.slice (some ⟨b,off,none⟩) n c,.slice (some ⟨b2,off2,none⟩) n d] w (CmPost (cmL S T n n) (cmE S T n n) w):=by
 have HX:Hid (Blk (w.alloc (Obj.cells #[.slice (some ⟨b,off,none⟩) n c,.slice (some ⟨b2,off2,none⟩) n d] 73)) w.heap.size 73 #[.slice (some ⟨b,off,none⟩) n c,.slice (some ⟨b2,off2,none⟩) n d]):=Blk.new _ _ _
 have HAL:Hid (Below w.heap.size w (w.alloc (Obj.cells #[.slice (some ⟨b,off,none⟩) n c,.slice (some ⟨b2,off2,none⟩) n d] 73))):=(bR _ w).alloc (nl _) _
 have SC:=LH (sconcat w.heap.size b off b2 off2 n c d S T (by omega) (by omega) (w.alloc (Obj.cells #[.slice (some ⟨b,off,none⟩) n c,.slice (some ⟨b2,off2,none⟩) n d] 73)) (hS.below HAL.out) (hT.below HAL.out) HX.out.lt (HX.out.cell 0) (HX.out.cell 1))
 have HS:=LH hS
 have HT:=LH hT
 have HV:Hid ((∀k,k<n→S.VN k≤12)∧∀k,k<n→T.VN k≤12):=⟨hv,hv'⟩
 have HN0:Hid (0<n∧n≤12):=⟨by omega,h12⟩
 have t1:((n:Int)!=(n:Int))=false:=by simp
 have t2:((n:Int)==0)=false:=by rw [beq_eq_false_iff_ne];omega
 have t2':(n==0)=false:=by simpa using h0
 have t3:decide ((10000:Int)<(n:Int))=false:=dF (by omega)
 have t3':decide (10000<n)=false:=dF (by omega)
 obtain ⟨er,her⟩:∃er,cmE S T n n=er:=⟨_,rfl⟩
 obtain ⟨ML,hML⟩:∃L,cmL S T n n=L:=⟨_,rfl⟩
 rw [her,hML]
 have HER:=LH (And.intro her hML)
 clear hS hT hv hv' h0 h12 her hML
 go_enter Tryz.func38,Tryz.ntmps38
 go_upto_region 4 with (first
  |(go_at_call 81
    with_reducible refine SC.out.mono ?_
    rintro e w4 ⟨hh,cap,N,hN,rfl,hown,hb4⟩
    have HN:=LH hN
    have HO:=LH hown
    have HB4:=LH (zA1 HAL.out hb4)
    clear hN hown hb4))
 clear SC HX HAL
 have HCI:Hid (StAt w4 hh 0 N (S.cat T n)):=by
  have h:=own_sts HO.out (by have:=HN0.out;have:=HN.out;omega) (fun k hk=>stl_all (HS.out.below HB4.out) (HT.out.below HB4.out) k (by have:=HN.out;omega))
  obtain ⟨q1,q2,he,hst⟩:=h.st (by have:=HN0.out;have:=HN.out;omega)
  injection he with he
  injection he with e1 e2
  subst e1
  subst e2
  exact hst
 have HCV:Hid (∀k,k<N→(S.cat T n).VN k≤12):=fun k hk=>by
  rw [cat_vn]
  split
  ·exact HV.out.1 k (by omega)
  ·exact HV.out.2 _ (by have:=HN.out;omega)
 have HN1:Hid (0<N∧N≤24):=by have:=HN0.out;have:=HN.out;show _∧_;omega
 clear HO
 obtain ⟨m,hm⟩:∃m,(S.cat T n).VN 0=m:=⟨_,rfl⟩
 have HM:=LH hm
 clear hm
 go_wp2_with fail
 go_loopw [26] (fun u wr=>∃i:Nat,Hid (i≤N)∧u= .int .i64 i∧Hid (∀k,k<i→(S.cat T n).VN k=m)∧Hid (Below w4.heap.size w4 wr)) (fun u _=>N - (RowKit.intOf u).toNat)
 case atStart=>exact ⟨0,Nat.zero_le _,rfl,fun k hk=>by omega,bR _ _⟩
 case round=>
  obtain ⟨i,Hi,rfl,HA,HW⟩:=hrel
  by_cases hlt:i<N
  ·have T0:decide ((i:Int)<(N:Int))=true:=by simp<;> omega
   have T0':decide (i<N)=true:=dU hlt
   obtain ⟨i',hi'⟩:∃z,z=i+1:=⟨_,rfl⟩
   have x0:IntKind.i64.wrap ((i:Int)+1)=(i':Int):=by have:=HN1.out;rw [IntKind.wrap_i64];omega
   have k0:(0:Int)≤(i:Int):=by omega
   have k1:(i:Int)<(N:Int):=by omega
   have k2:i<N:=hlt
   have kN:(0:Int)<(N:Int):=by have:=HN1.out;omega
   have kN':0<N:=by have:=HN1.out;omega
   have HMS:Hid (N - (RowKit.intOf (Value.int .i64 (i':Int))).toNat<N - (RowKit.intOf (Value.int .i64 (i:Int))).toNat):=by show _<_;simp [RowKit.intOf];omega
   have hst:=HCI.out.below HW.out
   have HC:Hid (wr.rangeAt hh (0+i*4) [.slice ((S.cat T n).VA i) ((S.cat T n).VN i) ((S.cat T n).VC i),.slice ((S.cat T n).PA i) ((S.cat T n).PN i) ((S.cat T n).PC i),.slice ((S.cat T n).SA i) ((S.cat T n).SN i) ((S.cat T n).SC i),.slice ((S.cat T n).OA i) ((S.cat T n).ON i) ((S.cat T n).OC i)]):=(hst.2 i hlt).1
   obtain ⟨A0,c0,hc0⟩:=st_len hst kN' HM.out
   rw [Nat.zero_add,Nat.zero_mul] at hc0
   have HC0:=LH hc0
   have HLT:=LH hlt
   have HI':Hid (i'≤N∧i'=i+1):=⟨by omega,hi'⟩
   have hal:Below wr.heap.size wr (wr.alloc (Obj.cells #[.slice ((S.cat T n).VA i) ((S.cat T n).VN i) ((S.cat T n).VC i),.slice ((S.cat T n).PA i) ((S.cat T n).PN i) ((S.cat T n).PC i),.slice ((S.cat T n).SA i) ((S.cat T n).SN i) ((S.cat T n).SC i),.slice ((S.cat T n).OA i) ((S.cat T n).ON i) ((S.cat T n).OC i)] 77)):=(bR _ wr).alloc (nl _) _
   have HY:Hid (Blk (wr.alloc (Obj.cells #[.slice ((S.cat T n).VA i) ((S.cat T n).VN i) ((S.cat T n).VC i),.slice ((S.cat T n).PA i) ((S.cat T n).PN i) ((S.cat T n).PC i),.slice ((S.cat T n).SA i) ((S.cat T n).SN i) ((S.cat T n).SC i),.slice ((S.cat T n).OA i) ((S.cat T n).ON i) ((S.cat T n).OC i)] 77)) wr.heap.size 77 #[.slice ((S.cat T n).VA i) ((S.cat T n).VN i) ((S.cat T n).VC i),.slice ((S.cat T n).PA i) ((S.cat T n).PN i) ((S.cat T n).PC i),.slice ((S.cat T n).SA i) ((S.cat T n).SN i) ((S.cat T n).SC i),.slice ((S.cat T n).OA i) ((S.cat T n).ON i) ((S.cat T n).OC i)]):=Blk.new _ _ _
   have HW2:=LH (zA1 HW.out hal)
   have HC2:Hid ((wr.alloc (Obj.cells #[.slice ((S.cat T n).VA i) ((S.cat T n).VN i) ((S.cat T n).VC i),.slice ((S.cat T n).PA i) ((S.cat T n).PN i) ((S.cat T n).PC i),.slice ((S.cat T n).SA i) ((S.cat T n).SN i) ((S.cat T n).SC i),.slice ((S.cat T n).OA i) ((S.cat T n).ON i) ((S.cat T n).OC i)] 77)).cell? ⟨hh,0,none⟩=some (.slice A0 m c0)):=(hal.cell (p:=⟨hh,0,none⟩) hst.1).trans hc0
   clear hlt hi' hst hc0 hal
   rw [show 0+i*4=i*4 from Nat.zero_add _] at HC
   go_upto_region 7 with (first
        |(refine wpList_load_mid rfl 77 (.tmp 28) rfl hh (i*4) rfl _ _ HC.out Tryz.underlying77 rfl (by kernel_rfl) ?_)
        |(refine wpList_load_mid rfl 77 (.tmp 28) rfl hh (0+i*4) rfl _ _ HC.out Tryz.underlying77 rfl (by kernel_rfl) ?_))
   generalize wr.alloc (Obj.cells #[.slice ((S.cat T n).VA i) ((S.cat T n).VN i) ((S.cat T n).VC i),.slice ((S.cat T n).PA i) ((S.cat T n).PN i) ((S.cat T n).PC i),.slice ((S.cat T n).SA i) ((S.cat T n).SN i) ((S.cat T n).SC i),.slice ((S.cat T n).OA i) ((S.cat T n).ON i) ((S.cat T n).OC i)] 77)=w5 at HY HW2 HC2⊢
   generalize wr.heap.size=G at HY⊢
   have y0:=HY.out.cell 0
   simp only [List.getElem?_toArray,List.getElem?_cons_zero,List.getElem?_cons_succ] at y0
   have z0:=HC2.out
   by_cases hq:(S.cat T n).VN i=m
   case neg=>
        obtain ⟨mi,hmi⟩:∃mi,(S.cat T n).VN i=mi:=⟨_,rfl⟩
        rw [hmi] at y0
        have u1:((mi:Int)!=(m:Int))=true:=by simp;intro h;exact hq (by rw [hmi];omega)
        have u2:((mi:Int)==(m:Int))=false:=by rw [beq_eq_false_iff_ne];intro h;exact hq (by rw [hmi];omega)
        have HE:Hid (er=3∧ML=[]):=by
         have h3:=cmE_3 (S:=S) (T:=T) (.inr ((cat_rag HN.out HN0.out.1).1 ⟨i,HLT.out,by rw [HM.out];exact hq⟩):n≠n∨ragP S T n)
         exact ⟨by rw [←HER.out.1];exact h3,by rw [←HER.out.2];exact cmL_no h3 (by decide)⟩
        have her:=HE.out.1
        subst her
        have HEW0:=LH (zA1 HB4.out HW2.out)
        clear hq hmi
        go_quiet (fail)
        have HEW:Hid (Below w.heap.size w (w5.drewN nq)):=zD0 HEW0.out _
        go_wp2_with fail
        go_ret2
        exact cm_err HE.out.2 rfl HEW.out
   rw [hq] at y0
   have u1:((m:Int)!=(m:Int))=false:=by simp
   have HA':Hid (∀k,k<i'→(S.cat T n).VN k=m):=fun k hk=>by
        by_cases q:k<i
        ·exact HA.out k q
        ·rw [show k=i by have:=HI'.out;omega]
         exact hq
   clear hq
   go_quiet (fail)
   have HW3:Hid (Below w4.heap.size w4 (w5.drewN nq)):=zD0 HW2.out _
   go_wp2_with fail
   go_roundw
   case rel=>exact ⟨i',HI'.out.1,rfl,HA',HW3⟩
   case measure=>exact HMS.out
  have e:i=N:=by have:=Hi.out;omega
  subst e
  have T0:decide ((i:Int)<(i:Int))=false:=by simp
  have T0':decide (i<i)=false:=by simp
  have HNR:Hid (¬ragP S T n):=fun q=>by
   obtain ⟨k,hk,h⟩:=(cat_rag HN.out HN0.out.1).2 q
   exact h ((HA.out k hk).trans HM.out.symm)
  clear hlt HA
  obtain ⟨f,hf⟩:∃f,boolOf (rngP S T n)=f:=⟨_,rfl⟩
  have SK:=LH (cmp_has (some ⟨hh,0,none⟩) i cap (S.cat T n) (fun k=>boolOf (∃j,j<(S.cat T n).VN k∧badV ((S.cat T n).V k j))) wr (by have:=HN1.out;omega) ⟨by have:=HN1.out;omega,.inr ⟨hh,0,rfl,HCI.out.below HW.out⟩⟩ f (by rw [←hf];exact zR1.trans (cat_rng HN.out).symm) (fun k hk w' hb=>p_cmp (S.cat T n) k w' (by have:=HCV.out k hk;omega) (((HCI.out.below HW.out).2 k hk).2.1.below (nl _) hb)))
  have HF:=LH hf
  clear hf
  by_cases hft:f=true
  case pos=>
   subst hft
   have HE:Hid (er=2∧ML=[]):=by
        have h2:=cmE_2 HNR.out (by have:=HN0.out;omega) (zR1.1 HF.out)
        exact ⟨by rw [←HER.out.1];exact h2,by rw [←HER.out.2];exact cmL_no h2 (by decide)⟩
   have her:=HE.out.1
   subst her
   go_wp2_with (first
        |(go_at_call 37
          with_reducible refine SK.out.mono ?_
          rintro e w6 ⟨rfl,hb6⟩
          have HEW:=LH (zA1 HB4.out (zA1 HW.out hb6))
          clear hb6))
   go_ret2
   exact cm_err HE.out.2 rfl HEW.out
  obtain rfl:f=false:=by cases f with |false=>rfl |true=>exact absurd rfl hft
  have HR:Hid (¬rngP S T n):=fun q=>by have h:=HF.out;rw [zA2 q] at h;exact absurd h (by simp)
  have HE:Hid (er=0∧ML=cmpL S T n (S.VN 0)):=by
   have h3:=cmE_0 HNR.out (by have:=HN0.out;omega) HR.out
   exact ⟨by rw [←HER.out.1];exact h3,by rw [←HER.out.2];exact if_pos h3⟩
  clear hft HF
  go_upto_region 16 with (first
   |(go_at_call 37
     with_reducible refine SK.out.mono ?_
     rintro e w6 ⟨rfl,hb6⟩
     have HB6:=LH (zA1 HB4.out (zA1 HW.out hb6))
     clear hb6))
  have HMS0:Hid (S.VN 0=m):=by
   have h:=HM.out
   rw [cat_vn,if_pos HN0.out.1] at h
   exact h
  have HM12:Hid (m≤12):=by have h:=HV.out.1 0 HN0.out.1;rw [HMS0.out] at h;exact h
  have HSV:Hid (∀k,k<n→S.VN k=m∧T.VN k=m):=fun k hk=>by
   refine ⟨?_,?_⟩
   ·rw [←HMS0.out];exact Classical.byContradiction fun q=>HNR.out ⟨k,hk,.inl q⟩
   ·rw [←HMS0.out];exact Classical.byContradiction fun q=>HNR.out ⟨k,hk,.inr q⟩
  have kn:(0:Int)<(n:Int):=by have:=HN0.out;omega
  have kn':0<n:=HN0.out.1
  obtain ⟨A0,c0,hc0⟩:=st_len (HS.out.below HB6.out) kn' HMS0.out
  rw [Nat.zero_mul,Nat.add_zero] at hc0
  clear SK HW HCI HCV
  go_wp2_with fail
  clear hc0
  go_loopw [9,56] (fun v' u wr=>∃(k:Nat) (v:Value),Hid (k≤m)∧v=v'∧u= .int .i64 k∧Hid (SpO w.heap.size (cmpL S T n k) v wr)∧Hid (Below w.heap.size w wr)) (fun _ u _=>m - (RowKit.intOf u).toNat)
  case atStart=>exact ⟨0,_,Nat.zero_le _,rfl,rfl,SpO.nil _ _,HB6⟩
  case round=>
   obtain ⟨k,v,Hk,rfl,rfl,HSP,HW⟩:=hrel
   by_cases hlt:k<m
   case neg=>
        have e:k=m:=by have:=Hk.out;omega
        subst e
        have T0:decide ((k:Int)<(k:Int))=false:=by simp
        have T0':decide (k<k)=false:=by simp
        have her:=HE.out.1
        subst her
        have HRS:Hid (SpO w.heap.size ML v wr):=by show SpO _ _ _ _;rw [HE.out.2,HMS0.out];exact HSP.out
        clear hlt
        go_wp2_with fail
        go_ret2
        exact ⟨v,rfl,HRS.out,HW.out⟩
   have T0:decide ((k:Int)<(m:Int))=true:=by simp<;> omega
   have T0':decide (k<m)=true:=dU hlt
   obtain ⟨k',hk'⟩:∃z,z=k+1:=⟨_,rfl⟩
   have x0:IntKind.i64.wrap ((k:Int)+1)=(k':Int):=by have:=HM12.out;rw [IntKind.wrap_i64];omega
   have k0:(0:Int)≤(k:Int):=by omega
   have k1:(k:Int)<(m:Int):=by omega
   have k2:k<m:=hlt
   have HKT:=LH hlt
   have HK':Hid (k'≤m∧k'=k+1):=⟨by omega,hk'⟩
   have HMS:Hid (m - (RowKit.intOf (Value.int .i64 (k':Int))).toNat<m - (RowKit.intOf (Value.int .i64 (k:Int))).toNat):=by show _<_;simp [RowKit.intOf];omega
   have HSr:=LH (HS.out.below HW.out)
   have HTr:=LH (HT.out.below HW.out)
   have HD:Hid (∀i,i<n→ -1125899906842624≤dfV S T k i∧dfV S T k i≤1125899906842624):=fun i hi=>by
        have h:=dfV_bd HNR.out HR.out hi (by rw [HMS0.out];exact HKT.out)
        unfold dfV
        omega
   obtain ⟨b3,o3,c3,f0,f1⟩:=st_vol HTr.out kn' (HSV.out 0 kn').2 hlt
   obtain ⟨b4,o4,c4,f2,f3⟩:=st_vol HSr.out kn' (HSV.out 0 kn').1 hlt
   rw [Nat.zero_mul,Nat.add_zero] at f0 f2
   obtain ⟨d0,hd0⟩:∃d,dfV S T k 0=d:=⟨_,rfl⟩
   have x1:IntKind.i64.wrap (T.V 0 k - S.V 0 k)=d0:=by have h:=HD.out 0 kn';rw [hd0] at h;rw [show T.V 0 k - S.V 0 k=d0 from hd0,IntKind.wrap_i64];omega
   have HD0:=LH hd0
   clear hlt hk' hd0
   go_upto_region 20 with fail
   go_quiet (fail)
   have HW3:Hid (Below w.heap.size w (wr.drewN nq)):=zD0 HW.out _
   have HSP3:Hid (SpO w.heap.size (cmpL S T n k) v (wr.drewN nq)):=zC0 HSP.out (zD0 (bR wr.heap.size wr) _)
   clear f0 f1 f2 f3 HW HSP
   generalize wr.drewN nq=w7 at HW3 HSP3⊢
   have hal:Below w7.heap.size w7 (w7.alloc (Obj.cells #[.int .i64 d0,.int .i64 d0] 87)):=(bR _ w7).alloc (nl _) _
   have HG:Hid (Blk (w7.alloc (Obj.cells #[.int .i64 d0,.int .i64 d0] 87)) w7.heap.size 87 #[.int .i64 (loF (dfV S T k) 0),.int .i64 (hiF (dfV S T k) 0)]):=by
        have h:=Blk.new w7 87 #[.int .i64 d0,.int .i64 d0]
        rw [←HD0.out] at h
        rw [←HD0.out]
        exact h
   have HWA:Hid (Below w7.heap.size w7 (w7.alloc (Obj.cells #[.int .i64 d0,.int .i64 d0] 87))):=hal
   clear hal
   go_upto_region 22 with fail
   generalize w7.alloc (Obj.cells #[.int .i64 d0,.int .i64 d0] 87)=w8 at HG HWA⊢
   go_wp2_with fail
   go_loopw [79] (fun u wr=>∃i:Nat,Hid (i≤n)∧u= .int .i64 i∧Hid (Blk wr w7.heap.size 87 #[.int .i64 (loF (dfV S T k) i),.int .i64 (hiF (dfV S T k) i)])∧Hid (Below w7.heap.size w7 wr)) (fun u _=>n - (RowKit.intOf u).toNat)
   case atStart=>exact ⟨0,Nat.zero_le _,rfl,HG,HWA⟩
   case round=>
        clear HG HWA
        obtain ⟨i,Hi,rfl,HG,HWA⟩:=hrel
        by_cases hlt:i<n
        ·have T1:decide ((i:Int)<(n:Int))=true:=by simp<;> omega
         have T1':decide (i<n)=true:=dU hlt
         obtain ⟨i',hi'⟩:∃z,z=i+1:=⟨_,rfl⟩
         have x2:IntKind.i64.wrap ((i:Int)+1)=(i':Int):=by have:=HN0.out;rw [IntKind.wrap_i64];omega
         have j0:(0:Int)≤(i:Int):=by omega
         have j1:(i:Int)<(n:Int):=by omega
         have j2:i<n:=hlt
         have HI':Hid (i'≤n∧i'=i+1):=⟨by omega,hi'⟩
         have HMS2:Hid (n - (RowKit.intOf (Value.int .i64 (i':Int))).toNat<n - (RowKit.intOf (Value.int .i64 (i:Int))).toNat):=by show _<_;simp [RowKit.intOf];omega
         have hw:Below w.heap.size w wr:=zA1 HW3.out HWA.out
         obtain ⟨b3,o3,c3,f0,f1⟩:=st_vol (HT.out.below hw) hlt (HSV.out i hlt).2 HKT.out
         obtain ⟨b4,o4,c4,f2,f3⟩:=st_vol (HS.out.below hw) hlt (HSV.out i hlt).1 HKT.out
         obtain ⟨di,hdi⟩:∃d,dfV S T k i=d:=⟨_,rfl⟩
         have x3:IntKind.i64.wrap (T.V i k - S.V i k)=di:=by have h:=HD.out i hlt;rw [hdi] at h;rw [show T.V i k - S.V i k=di from hdi,IntKind.wrap_i64];omega
         obtain ⟨lo,hlo⟩:∃d,loF (dfV S T k) i=d:=⟨_,rfl⟩
         obtain ⟨hi,hhi⟩:∃d,hiF (dfV S T k) i=d:=⟨_,rfl⟩
         have HLH:Hid (loF (dfV S T k) i'=min lo di∧hiF (dfV S T k) i'=max hi di):=by rw [hi',←hlo,←hhi,←hdi];exact ⟨rfl,rfl⟩
         rw [hlo,hhi] at HG
         clear hlt hi' hw hdi hlo hhi
         go_upto_region 25 with fail
         go_quiet (fail)
         have HG4:Hid (Blk (wr.drewN nq) w7.heap.size 87 #[.int .i64 lo,.int .i64 hi]):=HG.out.call (zD0 (bR wr.heap.size wr) _)
         have HWB:Hid (Below w7.heap.size w7 (wr.drewN nq)):=zD0 HWA.out _
         clear f0 f1 f2 f3 HG HWA
         generalize wr.drewN nq=w9 at HG4 HWB⊢
         obtain ⟨e0,e1⟩:=blk2 HG4.out
         have g0:=HG4.out.frozen 0
         have g1:=HG4.out.frozen 1
         have HG5:Hid (Blk ((w9.setCell ⟨w7.heap.size,0,none⟩ (.int .i64 (min lo di))).setCell ⟨w7.heap.size,1,none⟩ (.int .i64 (max hi di))) w7.heap.size 87 #[.int .i64 (loF (dfV S T k) i'),.int .i64 (hiF (dfV S T k) i')]):=by rw [HLH.out.1,HLH.out.2];exact (HG4.out.set_ 0 _).set_ 1 _
         have HW5:Hid (Below w7.heap.size w7 ((w9.setCell ⟨w7.heap.size,0,none⟩ (.int .i64 (min lo di))).setCell ⟨w7.heap.size,1,none⟩ (.int .i64 (max hi di)))):=(HWB.out.setCell (p:=⟨w7.heap.size,0,none⟩) (nl _) _).setCell (p:=⟨w7.heap.size,1,none⟩) (nl _) _
         go_wp2_with fail
         go_roundw
         case rel=>exact ⟨i',HI'.out.1,rfl,HG5,HW5⟩
         case measure=>exact HMS2.out
        ·have e:i=n:=by have:=Hi.out;omega
         subst e
         have T1:decide ((i:Int)<(i:Int))=false:=by simp
         have T1':decide (i<i)=false:=by simp
         obtain ⟨lo,hlo⟩:∃d,loF (dfV S T k) i=d:=⟨_,rfl⟩
         obtain ⟨hi,hhi⟩:∃d,hiF (dfV S T k) i=d:=⟨_,rfl⟩
         have HLH:=LH (And.intro hlo hhi)
         rw [hlo,hhi] at HG
         have HSP4:Hid (SpO w.heap.size (cmpL S T i k) v wr):=zC0 HSP3.out HWA.out
         have HW4:=LH (zA1 HW3.out HWA.out)
         clear hlt hlo hhi HWA
         obtain ⟨e0,e1⟩:=blk2 HG.out
         have hal:Below wr.heap.size wr (wr.alloc (Obj.cells #[.int .i64 lo,.int .i64 hi] 87)):=(bR _ wr).alloc (nl _) _
         have HSP5:Hid (SpO w.heap.size (cmpL S T i k) v (wr.alloc (Obj.cells #[.int .i64 lo,.int .i64 hi] 87))):=zC0 HSP4.out hal
         have HW5:=LH (zA1 HW4.out hal)
         have HB5:Hid (Blk (wr.alloc (Obj.cells #[.int .i64 lo,.int .i64 hi] 87)) wr.heap.size 87 #[.int .i64 lo,.int .i64 hi]):=Blk.new _ _ _
         have HLM:Hid ((cmpL S T i k).length≤20000):=by show _≤_;rw [cmpL_len];have:=HM12.out;have:=HKT.out;omega
         have HNX:Hid (cmpL S T i k'=cmpL S T i k++[(lo,hi)]):=by show _=_;rw [HK'.out.2,cmpL_succ,HLH.out.1,HLH.out.2]
         clear hal
         go_wp2_with (at_builtin;refine wpList_append_sp rfl (.tmp 109) (.tmp 111) rfl w.heap.size v (cmpL S T i k) rfl HSP5.out wr.heap.size lo hi rfl HB5.out HLM.out w HW5.out (nl _) ?_
                      intro A9 c9 w9 ho9 hb9 hg9
                      rw [←HNX.out] at ho9⊢
                      have HO9:=LH ho9
                      have HB9:=LH hb9
                      clear ho9 hb9 hg9)
         go_roundw
         case rel=>exact ⟨k',_,HK'.out.1,rfl,rfl,HO9,HB9⟩
         case measure=>exact HMS.out
theorem sc_Compare (A B:Option Addr) (n c n' d:Nat) (S T:Sts) (w:World) (h12:n≤12) (hS:StIn w A n S) (hT:StIn w B n' T) (hv:∀k,k<n→S.VN k≤12) (hv':∀k,k<n'→T.VN k≤12):
 Calls Tryz.prog 38 #[.slice A n c,.slice B n' d] w (CmPost (cmL S T n n') (cmE S T n n') w):=by
 by_cases hn:n=n'
 ·subst hn
  by_cases h0:n=0
  ·subst h0
   exact sc_cmp_none A B c d S T w
  ·obtain ⟨b,off,rfl,h1⟩:=hS.st h0
   obtain ⟨b2,off2,rfl,h2⟩:=hT.st h0
   exact sc_cmp_all b off b2 off2 n c d S T w h0 h12 h1 h2 hv hv'
 ·exact sc_cmp_size A B n c n' d S T w hn
end Go.Proofs.YtchakniaoeodmaaGreatDoor

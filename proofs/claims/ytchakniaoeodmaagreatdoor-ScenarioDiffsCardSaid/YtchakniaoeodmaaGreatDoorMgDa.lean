/- Merged texts of these proofs: ScSt,ScCt,ScVl. -/
import Derived.Test.YtchakniaoeodmaaGreatDoorMgMs
import Derived.Test.YtchakniaoeodmaaGreatDoorMgP
import Derived.Test.YtchakniaoeodmaaGreatDoorMgITx
import Derived.Test.YtchakniaoeodmaaGreatDoorMgAp
import Derived.BigRegion
import Derived.Lib.AppendZerosOnto
import Derived.Lib.AppendZeros
import Derived.Lib.SliceRun
import Derived.Lib.Walk
namespace Go.Proofs.YtchakniaoeodmaaGreatDoor
open Go.RowKit
set_option linter.unusedVariables false
set_option linter.unusedSimpArgs false
def BoolIn (w:World) (A:Option Addr) (n:Nat) (C:Nat→Bool):Prop:=n≤9223372036854775807∧(n=0∨∃b off,A=some ⟨b,off,none⟩∧b<w.heap.size∧∀k,k<n→w.cell? ⟨b,off+k,none⟩=some (.bool (C k)))
theorem BoolIn.below {w w':World} {B n:Nat} {A:Option Addr} {C:Nat→Bool} (h:BoolIn w A n C) (hB:w.heap.size≤B) (hb:Below B w w'):BoolIn w' A n C:=by
 refine ⟨h.1,?_⟩
 rcases h.2 with h0 |⟨b,off,hA,h1,h2⟩
 ·exact .inl h0
 ·exact .inr ⟨b,off,hA,Nat.lt_of_lt_of_le h1 hb.size,fun k hk=>(hb.cell (p:=⟨b,off+k,none⟩) (Nat.lt_of_lt_of_le h1 hB)).trans (h2 k hk)⟩
theorem BoolIn.at {w:World} {A:Option Addr} {n k:Nat} {C:Nat→Bool} (h:BoolIn w A n C) (hk:k<n):∃b off,A=some ⟨b,off,none⟩∧b<w.heap.size∧w.cell? ⟨b,off+k,none⟩=some (.bool (C k)):=by
 rcases h.2 with h0 |⟨b,off,hA,h1,h2⟩
 ·omega
 ·exact ⟨b,off,hA,h1,h2 k hk⟩
structure Sts where
 VA:Nat→Option Addr
 VN:Nat→Nat
 VC:Nat→Nat
 V:Nat→Nat→Int
 PA:Nat→Option Addr
 PN:Nat→Nat
 PC:Nat→Nat
 P:Nat→Nat→Int
 SA:Nat→Option Addr
 SN:Nat→Nat
 SC:Nat→Nat
 S:Nat→Nat→Int
 OA:Nat→Option Addr
 ON:Nat→Nat
 OC:Nat→Nat
 O:Nat→Nat→Bool
def Sts.vals (S:Sts) (k:Nat):List Value:=[.slice (S.VA k) (S.VN k) (S.VC k),.slice (S.PA k) (S.PN k) (S.PC k),.slice (S.SA k) (S.SN k) (S.SC k),.slice (S.OA k) (S.ON k) (S.OC k)]
def StL (w:World) (S:Sts) (k:Nat):Prop:=IntIn w (S.VA k) (S.VN k) (S.V k)∧IntIn w (S.PA k) (S.PN k) (S.P k)∧IntIn w (S.SA k) (S.SN k) (S.S k)∧BoolIn w (S.OA k) (S.ON k) (S.O k)
theorem StL.below {w w':World} {B k:Nat} {S:Sts} (h:StL w S k) (hB:w.heap.size≤B) (hb:Below B w w'):StL w' S k:=⟨h.1.below hB hb,h.2.1.below hB hb,h.2.2.1.below hB hb,h.2.2.2.below hB hb⟩
def StAt (w:World) (b off n:Nat) (S:Sts):Prop:=b<w.heap.size∧∀k,k<n→CellsAt w b (off+k*4) (S.vals k)∧StL w S k
def StIn (w:World) (A:Option Addr) (n:Nat) (S:Sts):Prop:=n≤9223372036854775807∧(n=0∨∃b off,A=some ⟨b,off,none⟩∧StAt w b off n S)
theorem StIn.below {w w':World} {B n:Nat} {A:Option Addr} {S:Sts} (h:StIn w A n S) (hB:w.heap.size≤B) (hb:Below B w w'):StIn w' A n S:=by
 refine ⟨h.1,?_⟩
 rcases h.2 with h0 |⟨b,off,hA,ht⟩
 ·exact .inl h0
 ·exact .inr ⟨b,off,hA,Nat.lt_of_lt_of_le ht.1 hb.size,fun k hk=>⟨(ht.2 k hk).1.below hb (Nat.lt_of_lt_of_le ht.1 hB),(ht.2 k hk).2.below hB hb⟩⟩
theorem StIn.at {w:World} {A:Option Addr} {n k:Nat} {S:Sts} (h:StIn w A n S) (hk:k<n):∃b off,A=some ⟨b,off,none⟩∧b<w.heap.size∧CellsAt w b (off+k*4) (S.vals k)∧StL w S k:=by
 rcases h.2 with h0 |⟨b,off,hA,ht⟩
 ·omega
 ·exact ⟨b,off,hA,ht.1,ht.2 k hk⟩
def stc (S:Sts) (f:Nat→Nat) (n:Nat):List Value:=(List.range n).flatMap fun k=>S.vals (f k)
theorem vals_len (S:Sts) (k:Nat):(S.vals k).length=4:=rfl
theorem stc_succ (S:Sts) (f:Nat→Nat) (n:Nat):stc S f (n+1)=stc S f n++S.vals (f n):=by
 unfold stc
 rw [List.range_succ,List.flatMap_append]
 simp
theorem stc_len (S:Sts) (f:Nat→Nat):∀n,(stc S f n).length=n*4
 |0=>rfl
 |n+1=>by
  rw [stc_succ,List.length_append,stc_len S f n,vals_len]
  omega
theorem stc_at (S:Sts) (f:Nat→Nat):∀{n k j:Nat},k<n→j<4→(stc S f n)[k*4+j]?=(S.vals (f k))[j]?
 |0,_,_,h,_=>absurd h (Nat.not_lt_zero _)
 |n+1,k,j,h,hj=>by
  rw [stc_succ]
  have hl:=stc_len S f n
  by_cases g:k=n
  ·subst g
   rw [List.getElem?_append_right (by omega),hl]
   congr 1
   omega
  ·rw [List.getElem?_append_left (by omega)]
   exact stc_at S f (by omega) hj
theorem stc_cell (S:Sts) (f:Nat→Nat):∀{n:Nat},∀u∈stc S f n,u.oneCell'=true:=by
 intro n u hu
 unfold stc at hu
 rw [List.mem_flatMap] at hu
 obtain ⟨k,_,hu⟩:=hu
 simp [Sts.vals] at hu
 rcases hu with rfl |rfl |rfl |rfl<;> rfl
theorem addr_addS (b off j:Nat):(⟨b,off,none⟩:Addr).add j=⟨b,off+j,none⟩:=by
 unfold Addr.add
 by_cases h:j=0
 ·subst h;rfl
 ·simp [h]
theorem st_news {w:World} {b off n:Nat} {S:Sts} (ht:StAt w b off n S):∀j u,(stc S (fun k=>k) n)[j]?=some u→w.cell? ((⟨b,off,none⟩:Addr).add j)=some u:=by
 intro j u hj
 have hlen:j<(stc S (fun k=>k) n).length:=by
  rcases Nat.lt_or_ge j (stc S (fun k=>k) n).length with h |h
  ·exact h
  ·rw [List.getElem?_eq_none h] at hj;cases hj
 rw [stc_len] at hlen
 have hk:j / 4<n:=by omega
 have h1:=stc_at S (fun k=>k) (j:=j % 4) hk (by omega)
 rw [show j / 4*4+j % 4=j by omega,hj] at h1
 have:=(ht.2 (j / 4) hk).1 (j % 4) u h1.symm
 rw [addr_addS]
 rw [show off+j / 4*4+j % 4=off+j by omega] at this
 exact this
theorem infoSt:(Tryz.prog.info? 77).map (fun i=>(i.zero,i.size,i.bytes))=some (some (.agg #[.slice none 0 0,.slice none 0 0,.slice none 0 0,.slice none 0 0]),4,96):=by kernel_rfl
theorem h63_st {a b:Nat} (ha:a≤2000) (hb:b≤2000):a+b≤maxLen:=by simp only [maxLen];omega
theorem hby_st {a b:Nat} (ha:a≤2000) (hb:b≤2000):(a+b)*96≤140737488355328:=by omega
def Sts.cat (S T:Sts) (n:Nat):Sts:=⟨fun k=>if k<n then S.VA k else T.VA (k - n),fun k=>if k<n then S.VN k else T.VN (k - n),fun k=>if k<n then S.VC k else T.VC (k - n),fun k=>if k<n then S.V k else T.V (k - n),fun k=>if k<n then S.PA k else T.PA (k - n),fun k=>if k<n then S.PN k else T.PN (k - n),fun k=>if k<n then S.PC k else T.PC (k - n),fun k=>if k<n then S.P k else T.P (k - n),fun k=>if k<n then S.SA k else T.SA (k - n),fun k=>if k<n then S.SN k else T.SN (k - n),fun k=>if k<n then S.SC k else T.SC (k - n),fun k=>if k<n then S.S k else T.S (k - n),fun k=>if k<n then S.OA k else T.OA (k - n),fun k=>if k<n then S.ON k else T.ON (k - n),fun k=>if k<n then S.OC k else T.OC (k - n),fun k=>if k<n then S.O k else T.O (k - n)⟩
theorem cat_l {S T:Sts} {n k:Nat} (h:k<n):(S.cat T n).vals k=S.vals k:=by simp [Sts.cat,Sts.vals,h]
theorem cat_r {S T:Sts} {n k:Nat}:(S.cat T n).vals (n+k)=T.vals k:=by
 have h:¬n+k<n:=by omega
 have e:n+k - n=k:=by omega
 simp [Sts.cat,Sts.vals,h,e]
theorem catL_l {w:World} {S T:Sts} {n k:Nat} (h:k<n) (hS:StL w S k):StL w (S.cat T n) k:=by
 unfold StL Sts.cat at*
 simpa [h] using hS
theorem catL_r {w:World} {S T:Sts} {n k:Nat} (hS:StL w T k):StL w (S.cat T n) (n+k):=by
 have h:¬n+k<n:=by omega
 have e:n+k - n=k:=by omega
 unfold StL Sts.cat at*
 simpa [h,e] using hS
theorem cat_id (S T:Sts) (n:Nat):∀t,t≤n→stc (S.cat T n) (fun k=>k) t=stc S (fun k=>k) t
 |0,_=>rfl
 |t+1,h=>by rw [stc_succ,stc_succ,cat_id S T n t (by omega),cat_l (by omega)]
theorem cat_two (S T:Sts) (n:Nat):∀t,stc (S.cat T n) (fun k=>k) (n+t)=stc S (fun k=>k) n++stc T (fun k=>k) t
 |0=>by rw [Nat.add_zero,cat_id S T n n (nl _)];simp [stc]
 |t+1=>by
  rw [←Nat.add_assoc,stc_succ,cat_two S T n t,cat_r,List.append_assoc,←stc_succ T (fun k=>k) t]
theorem own_sts {w:World} {base n cap:Nat} {A:Option Addr} {S:Sts} (h:w.ownsRow base 77 4 (.slice A n cap) n (stc S (fun k=>k) n)) (h2:n≤4000) (hL:∀k,k<n→StL w S k):StIn w A n S:=by
 refine ⟨by omega,?_⟩
 rcases h.2 with ⟨hv,h0⟩|⟨g,cap',cur,hv,_,_,_,_⟩
 ·exact .inl h0
 ·injection hv with hA _ _
  subst hA
  refine .inr ⟨g,0,rfl,(h.lt g rfl).2,fun k hk=>⟨fun j v hj=>?_,hL k hk⟩⟩
  have hj4:j<4:=by
   have:=(List.getElem?_eq_some_iff.1 hj).1
   rwa [vals_len] at this
  rw [Nat.zero_add,h.cellAt (k*4+j) (by omega),stc_at S (fun k=>k) hk hj4]
  exact hj
set_option maxHeartbeats 2000000 in
set_option maxRecDepth 100000 in
theorem sgrow (n:Nat) (h0:0<n) (h1:n≤2000) (w:World):
 Calls Tryz.prog 128 #[.slice none 0 0,.int .i64 (n:Int)] w fun e w'=>∃C:Nat,e= .returned (.slice (some ⟨w.heap.size,0,none⟩) 0 C)∧w'.ownsRow w.heap.size 77 4 (.slice (some ⟨w.heap.size,0,none⟩) 0 C) 0 []∧Below w.heap.size w w':=by
 obtain ⟨i0,hi0,hz0,hs0,hby⟩:=zB2 infoSt
 have hold:(Builtin.firstCells i0.size 0 (.slice none 0 0)).run Tryz.prog w.drew= .ok (#[]:Array Value) w.drew:=run_firstCells_none w.drew i0.size 0 0 0
 have hge:=grownCap_ge w n 0 77
 have hle:=grownCap_le_maxLen w n 0 77 (by unfold maxLen;omega)
 have hr:∀ty,(Builtin.append_ #[73,3] ty #[.slice none 0 0,.int .i64 (n:Int)]).run Tryz.prog w=
  .ok (.slice (some ⟨w.heap.size,0,none⟩) n (grownCap w n 0 77)) (w.drew.alloc (.cells (#[]++Builtin.zeroCells (Value.agg #[.slice none 0 0,.slice none 0 0,.slice none 0 0,.slice none 0 0]).cells n++Builtin.zeroCells (Value.agg #[.slice none 0 0,.slice none 0 0,.slice none 0 0,.slice none 0 0]).cells (grownCap w n 0 77 - n)) 77)):=fun ty=>by
  have h:=Lib.run_append_grow_zeros w 73 3 ty 77 i0 (.agg #[.slice none 0 0,.slice none 0 0,.slice none 0 0,.slice none 0 0]) .i64 .i64 Tryz.underlying73 Tryz.underlying3 hi0 hz0 none 0 0 [] hold n h0 (by omega) (by omega) (by omega) (by rw [hby];omega) (growslice_fits (by omega) (by rw [hby];omega))
  rw [Nat.zero_add] at h
  exact h
 obtain ⟨C,hC⟩:∃C,C=grownCap w n 0 77:=⟨_,rfl⟩
 rw [←hC] at hr hge hle
 have HO:Hid (∀u,u=(w.drew.alloc (.cells (#[]++Builtin.zeroCells (Value.agg #[.slice none 0 0,.slice none 0 0,.slice none 0 0,.slice none 0 0]).cells n++Builtin.zeroCells (Value.agg #[.slice none 0 0,.slice none 0 0,.slice none 0 0,.slice none 0 0]).cells (C - n)) 77))→u.ownsRow w.heap.size 77 4 (.slice (some ⟨w.heap.size,0,none⟩) 0 C) 0 []∧Below w.heap.size w u):=by
  rintro u rfl
  refine ⟨⟨rfl,.inr ⟨w.heap.size,C,_,rfl,nl _,heap_alloc_new w.drew _,Nat.zero_le _,hle,?_,rfl⟩⟩,(bR _ w).drew.alloc (nl _) _⟩
  simp only [Array.size_append,size_zeroCells]
  have:(Value.agg #[.slice none 0 0,.slice none 0 0,.slice none 0 0,.slice none 0 0]).cells.size=4:=rfl
  rw [this]
  simp
  omega
 have h2:wrap64 ((n:Int) - 0)=(n:Int):=by unfold wrap64;omega
 have h3:IntKind.i64.wrap ((n:Int) - 0)=(n:Int):=by rw [IntKind.wrap_i64];omega
 have h3':IntKind.i64.wrap (n:Int)=(n:Int):=by rw [IntKind.wrap_i64];omega
 have h4:decide ((0:Int)<(n:Int))=true:=by simp;omega
 have h5:decide (0<n)=true:=dU h0
 have h6:decide ((n:Int)<0)=false:=by simp
 have HL:=LH hle
 have hr2:=LH hr
 have hC0:(0:Int)≤(C:Int):=by omega
 clear hold hge hle hC hr h0 h1
 go_enter Tryz.func128,Tryz.ntmps128
 go_wp2_with (at_builtin;refine Lib.wpList_append_run _ rfl _ _ _ _ rfl _ _ rfl rfl _ _ (hr2.out _) ?_)
 go_ret
 exact ⟨C,rfl,HO.out _ (by simp;rfl)⟩
def SCatPost (w:World) (s:Nat) (S T:Sts) (e:Ending) (w':World):Prop:=∃h cap N:Nat,N=s+s∧e= .returned (.slice (some ⟨h,0,none⟩) N cap)∧w'.ownsRow w.heap.size 77 4 (.slice (some ⟨h,0,none⟩) N cap) N (stc (S.cat T s) (fun k=>k) N)∧Below w.heap.size w w'
set_option maxRecDepth 100000 in
set_option maxHeartbeats 4000000 in
theorem sconcat (g b off b2 off2 s c d:Nat) (S T:Sts) (h1:0<s) (h2:s≤1000) (w:World) (hT:StAt w b off s S) (hT2:StAt w b2 off2 s T) (hg:g<w.heap.size) (c0:w.cell? ⟨g,0,none⟩=some (.slice (some ⟨b,off,none⟩) s c)) (c1:w.cell? ⟨g,1,none⟩=some (.slice (some ⟨b2,off2,none⟩) s d)):
 Calls Tryz.prog 81 #[.slice (some ⟨g,0,none⟩) 2 2] w (SCatPost w s S T):=by
 obtain ⟨N,hN⟩:∃N,N=s+s:=⟨_,rfl⟩
 have HN:=LH hN
 have SG:=LH fun w=>sgrow N (by omega) (by omega) w
 have HT:=LH hT
 have HT2:=LH hT2
 have H2:Hid (s≤2000):=by show s≤2000;omega
 have H1:Hid (0<s):=h1
 have HC0:=LH c0
 have HC1:=LH c1
 have a1:IntKind.i64.wrap (s:Int)=(s:Int):=by rw [IntKind.wrap_i64];omega
 have a2:IntKind.i64.wrap ((s:Int)+(s:Int))=(N:Int):=by rw [IntKind.wrap_i64];omega
 have hbb:=hT.1
 have hbb2:=hT2.1
 have HSS:Hid (stc (S.cat T s) (fun k=>k) N=stc S (fun k=>k) s++stc T (fun k=>k) s):=by show _=_;rw [hN];exact cat_two S T s s
 have HNW:Hid (∀wr,Below w.heap.size w wr→∀j u,(stc S (fun k=>k) s)[j]?=some u→wr.cell? ((⟨b,off,none⟩:Addr).add j)=some u):=fun wr hb=>st_news ⟨Nat.lt_of_lt_of_le HT.out.1 hb.size,fun k hk=>⟨(HT.out.2 k hk).1.below hb hbb,(HT.out.2 k hk).2.below (nl _) hb⟩⟩
 have HNW2:Hid (∀wr,Below w.heap.size w wr→∀j u,(stc T (fun k=>k) s)[j]?=some u→wr.cell? ((⟨b2,off2,none⟩:Addr).add j)=some u):=fun wr hb=>st_news ⟨Nat.lt_of_lt_of_le HT2.out.1 hb.size,fun k hk=>⟨(HT2.out.2 k hk).1.below hb hbb2,(HT2.out.2 k hk).2.below (nl _) hb⟩⟩
 clear h1 h2 hN hT hT2
 go_enter Tryz.func81,Tryz.ntmps81
 go_wp2_with fail
 go_loop [3,11] (fun u v=>(u= .int .i64 0∧v= .int .i64 0)∨(u= .int .i64 s∧v= .int .i64 1)∨(u= .int .i64 N∧v= .int .i64 2)) (fun _ v=>2 - (intOf v).toNat)
 case atStart=>exact .inl ⟨rfl,rfl⟩
 case round=>
  rcases hrel with ⟨rfl,rfl⟩|⟨rfl,rfl⟩|⟨rfl,rfl⟩
  ·go_wp2_with fail
   go_round
   case rel=>exact .inr (.inl ⟨rfl,rfl⟩)
   case measure=>simp [intOf]
  ·go_wp2_with fail
   go_round
   case rel=>exact .inr (.inr ⟨rfl,rfl⟩)
   case measure=>simp [intOf]
  ·go_wp2_with (first |(go_at_call 128;(with_reducible refine (SG.out _).mono ?_);rintro e w1 ⟨C,rfl,hown,hb1⟩))
   have HOW:=LH hown
   have HBW:=LH hb1
   obtain ⟨SI0,si0,sz0,sz1,sz2⟩:=zB2 infoSt
   have SI1:=LH si0
   have SI2:=LH sz0
   have SI3:=LH sz1
   have SI4:=LH sz2
   clear si0 sz0 sz1 sz2
   clear hown hb1 c0 c1
   go_loopw [6,27] (fun u v wr=>∃i h C K:Nat,∃xs:List Value,Hid ((i=0∧0=K∧[]=xs)∨(i=1∧s=K∧stc S (fun k=>k) s=xs)∨(i=2∧N=K∧stc S (fun k=>k) s++stc T (fun k=>k) s=xs))∧u= .slice (some ⟨h,0,none⟩) K C∧v= .int .i64 i∧Hid (wr.ownsRow w.heap.size 77 4 (.slice (some ⟨h,0,none⟩) K C) K xs∧Below w.heap.size w wr)) (fun _ v _=>2 - (intOf v).toNat)
   case atStart=>exact ⟨0,_,C,0,[],.inl ⟨rfl,rfl,rfl⟩,rfl,rfl,⟨HOW.out,HBW.out⟩⟩
   case round=>
        obtain ⟨i,h,C,K,xs,Hi,rfl,rfl,HM⟩:=hrel
        have c0:=(HM.out.2.cell (p:=⟨g,0,none⟩) hg).trans HC0.out
        have c1:=(HM.out.2.cell (p:=⟨g,1,none⟩) hg).trans HC1.out
        rcases Hi.out with ⟨rfl,rfl,rfl⟩|⟨rfl,rfl,rfl⟩|⟨rfl,rfl,rfl⟩
        ·go_wp2_with (first
          |(at_builtin;refine wpList_append_own_at _ ?cnaa (.tmp 31) (.tmp 32) 73 ?cnab (w.heap.size) 77 SI0 (.agg #[.slice none 0 0,.slice none 0 0,.slice none 0 0,.slice none 0 0]) 4 96 Tryz.underlying73 SI1.out SI2.out SI3.out SI4.out ?cnac ?cnad (.slice (some ⟨h,0,none⟩) 0 C) (0) ([]) ?cnae (HM.out.1) (⟨b,off,none⟩) (s) (c) (stc S (fun k=>k) s) ?cnag (by rw [stc_len]) (HNW.out _ HM.out.2) (stc_cell _ _) (h63_st (Nat.zero_le _) H2.out) (hby_st (Nat.zero_le _) H2.out) (HM.out.2.size) ?cnah
            case cnaa=>exact rfl
            case cnab=>exact rfl
            case cnac=>exact rfl
            case cnad=>decide
            case cnae=>exact rfl
            case cnag=>exact rfl
            intro v2 w4 hown2 hgrow2 hnil2 hat2
            obtain ⟨g2,cap2,rfl,hb2,hl2⟩:=hown2.form (by have:=H1.out;omega)
            rw [Nat.zero_add,List.nil_append] at hown2
            rw [Nat.zero_add]
            have HM2:=LH (And.intro hown2 (zK0 HM.out.1 HM.out.2 hgrow2))
            clear hown2 hgrow2 hnil2 hat2))
         go_roundw
         case rel=>exact ⟨1,g2,cap2,s,_,.inr (.inl ⟨rfl,rfl,rfl⟩),rfl,rfl,HM2⟩
         case measure=>simp [intOf]
        ·go_wp2_with (first
          |(at_builtin;refine wpList_append_own_at _ ?cnba (.tmp 31) (.tmp 32) 73 ?cnbb (w.heap.size) 77 SI0 (.agg #[.slice none 0 0,.slice none 0 0,.slice none 0 0,.slice none 0 0]) 4 96 Tryz.underlying73 SI1.out SI2.out SI3.out SI4.out ?cnbc ?cnbd (.slice (some ⟨h,0,none⟩) s C) (s) (stc S (fun k=>k) s) ?cnbe (HM.out.1) (⟨b2,off2,none⟩) (s) (d) (stc T (fun k=>k) s) ?cnbg (by rw [stc_len]) (HNW2.out _ HM.out.2) (stc_cell _ _) (h63_st H2.out H2.out) (hby_st H2.out H2.out) (HM.out.2.size) ?cnbh
            case cnba=>exact rfl
            case cnbb=>exact rfl
            case cnbc=>exact rfl
            case cnbd=>decide
            case cnbe=>exact rfl
            case cnbg=>exact rfl
            intro v2 w4 hown2 hgrow2 hnil2 hat2
            obtain ⟨g2,cap2,rfl,hb2,hl2⟩:=hown2.form (by have:=H1.out;omega)
            rw [←HN.out] at hown2
            rw [←HN.out]
            have HM2:=LH (And.intro hown2 (zK0 HM.out.1 HM.out.2 hgrow2))
            clear hown2 hgrow2 hnil2 hat2))
         go_roundw
         case rel=>exact ⟨2,g2,cap2,N,_,.inr (.inr ⟨rfl,rfl,rfl⟩),rfl,rfl,HM2⟩
         case measure=>simp [intOf]
        ·have HF:Hid (SCatPost w s S T (.returned (.slice (some ⟨h,0,none⟩) N C)) wr):=⟨h,C,N,HN.out,rfl,by rw [HSS.out];exact HM.out.1,HM.out.2⟩
         go_wp2_with fail
         go_ret
         exact HF.out
theorem srun_app0 {w:World} {base:Nat} {v:Value} (hown:w.ownsRow base 77 4 v 0 []) (A:Option Addr) (c:Nat) (ty:TypeId):(Builtin.append_ #[73,73] ty #[v,.slice A 0 c]).run Tryz.prog w= .ok v w:=by
 obtain ⟨i0,hi,hz0,hs0,hby⟩:=zB2 infoSt
 rcases hown.2 with ⟨rfl,_⟩|⟨g,cap,cur,rfl,_,_,hnc,_⟩
 ·cases A<;> simp [Builtin.append_,run_underlying Tryz.underlying73,sizeOf,typeInfo,hi,Builtin.lenOf,Builtin.firstCells,loadCells,loadCellsFrom,storeCells]
 ·cases A<;> simp [Builtin.append_,run_underlying Tryz.underlying73,sizeOf,typeInfo,hi,Builtin.lenOf,Builtin.firstCells,loadCells,loadCellsFrom,storeCells]
set_option maxRecDepth 100000 in
theorem sgrow0 (w:World):Calls Tryz.prog 128 #[.slice none 0 0,.int .i64 0] w fun e w'=>e= .returned (.slice none 0 0)∧w=w':=by
 go_enter Tryz.func128,Tryz.ntmps128
 go_wp2_with fail
 go_ret
 exact ⟨rfl,rfl⟩
set_option maxRecDepth 100000 in
theorem sconcat0 (g:Nat) (A B:Option Addr) (c d:Nat) (w:World) (hg:g<w.heap.size) (c0:w.cell? ⟨g,0,none⟩=some (.slice A 0 c)) (c1:w.cell? ⟨g,1,none⟩=some (.slice B 0 d)):
 Calls Tryz.prog 81 #[.slice (some ⟨g,0,none⟩) 2 2] w fun e w'=>e= .returned (.slice none 0 0)∧Below w.heap.size w w':=by
 have SG:=LH fun w=>sgrow0 w
 have HN:Hid (∀w:World,w.ownsRow w.heap.size 77 4 (.slice none 0 0) 0 []):=fun w=>World.ownsRow_nil _ _ _ _
 go_enter Tryz.func81,Tryz.ntmps81
 go_wp2_with fail
 go_loop [3,11] (fun u v=>u= .int .i64 0∧∃i:Nat,i≤2∧v= .int .i64 i) (fun _ v=>2 - (intOf v).toNat)
 case atStart=>exact ⟨rfl,0,by omega,rfl⟩
 case round=>
  obtain ⟨rfl,i,hi,rfl⟩:=hrel
  have:i=0∨i=1∨i=2:=by omega
  rcases this with rfl |rfl |rfl
  ·go_wp2_with fail
   go_round
   case rel=>exact ⟨rfl,1,by omega,rfl⟩
   case measure=>simp [intOf]
  ·go_wp2_with fail
   go_round
   case rel=>exact ⟨rfl,2,by omega,rfl⟩
   case measure=>simp [intOf]
  ·go_wp2_with (first |(go_at_call 128;(with_reducible refine (SG.out _).mono ?_);rintro e w1 ⟨rfl,rfl⟩))
   go_loop [6,27] (fun u v=>u= .slice none 0 0∧∃i:Nat,i≤2∧v= .int .i64 i) (fun _ v=>2 - (intOf v).toNat)
   case atStart=>exact ⟨rfl,0,by omega,rfl⟩
   case round=>
        obtain ⟨rfl,i,hi,rfl⟩:=hrel
        have:i=0∨i=1∨i=2:=by omega
        rcases this with rfl |rfl |rfl
        ·go_wp2_with (at_builtin;refine Lib.wpList_append_run _ rfl _ _ _ _ rfl _ _ rfl rfl _ _ (srun_app0 (HN.out _) _ _ _) ?_)
         go_round
         case rel=>exact ⟨rfl,1,by omega,rfl⟩
         case measure=>simp [intOf]
        ·go_wp2_with (at_builtin;refine Lib.wpList_append_run _ rfl _ _ _ _ rfl _ _ rfl rfl _ _ (srun_app0 (HN.out _) _ _ _) ?_)
         go_round
         case rel=>exact ⟨rfl,2,by omega,rfl⟩
         case measure=>simp [intOf]
        ·go_wp2_with fail
         go_ret
         exact ⟨rfl,bR _ _⟩
theorem StIn.row {w:World} {A:Option Addr} {n i:Nat} {S:Sts} (h:StIn w A n S) (hi:i<n):∃b off,A=some ⟨b,off,none⟩∧b<w.heap.size∧w.rangeAt b (off+i*4) [.slice (S.VA i) (S.VN i) (S.VC i),.slice (S.PA i) (S.PN i) (S.PC i),.slice (S.SA i) (S.SN i) (S.SC i),.slice (S.OA i) (S.ON i) (S.OC i)]:=by
 obtain ⟨b,off,rfl,hb,hc,_⟩:=h.at hi
 exact ⟨b,off,rfl,hb,hc⟩
def badV (v:Int):Prop:=v<0∨1125899906842624<v
theorem p_vol (v:Int) (w:World):Calls Tryz.prog 130 #[.int .i64 v] w fun e w'=>e= .returned (.bool (boolOf (badV v)))∧Below w.heap.size w w':=by
 by_cases h1:v<0
 ·rw [zA2 (show badV v from .inl h1)]
  have t1:decide (v<0)=true:=dU h1
  clear h1
  go_enter Tryz.func130,Tryz.ntmps130
  go_wp2_with fail
  go_ret
  exact ⟨rfl,bR _ _⟩
 ·have t1:decide (v<0)=false:=dF h1
  obtain ⟨g,hg⟩:∃g,decide (1125899906842624<v)=g:=⟨_,rfl⟩
  have hb:boolOf (badV v)=g:=by
   rw [←hg]
   by_cases h2:1125899906842624<v
   ·rw [zA2 (show badV v from .inr h2),dU h2]
   ·rw [zA0 (show¬badV v from fun q=>q.elim h1 h2),dF h2]
  rw [hb]
  clear h1 hb
  go_enter Tryz.func130,Tryz.ntmps130
  go_wp2_with fail
  go_ret
  exact ⟨rfl,bR _ _⟩
set_option maxRecDepth 100000 in
set_option maxHeartbeats 4000000 in
theorem vol_find (A:Option Addr) (n c k:Nat) (C:Nat→Int) (p:Nat→Bool) (w:World) (h2:n≤2000) (ht:IntIn w A n C) (hk:FirstAt p n k) (v:Int) (hv:v=if k<n then (k:Int) else -1)
 (SP:∀i,i<n→∀w',Below w.heap.size w w'→Calls Tryz.prog 130 #[.int .i64 (C i)] w' fun e w''=>e= .returned (.bool (p i))∧Below w'.heap.size w' w''):
 Calls Tryz.prog 174 #[.slice A n c,.func (.func 130) #[] #[]] w fun e w'=>e= .returned (.int .i64 v)∧Below w.heap.size w w':=by
 have HT:=LH ht
 have HK:=LH hk
 have H2:=LH h2
 have HV:=LH hv
 have HSP:=LH SP
 clear ht hk h2 hv SP
 go_enter Tryz.func174,Tryz.ntmps174
 go_wp2_with fail
 go_loopw [8] (fun u wr=>∃i:Nat,Hid (i≤n∧i≤k)∧u= .int .i64 i∧Hid (Below w.heap.size w wr)) (fun u _=>n - (RowKit.intOf u).toNat)
 case atStart=>exact ⟨0,⟨Nat.zero_le _,Nat.zero_le _⟩,rfl,bR _ _⟩
 case round=>
  obtain ⟨i,Hi,rfl,HW⟩:=hrel
  by_cases hlt:i<n
  ·have T0:decide ((i:Int)<(n:Int))=true:=by simp<;> omega
   have T0':decide (i<n)=true:=dU hlt
   obtain ⟨i',hi'⟩:∃z,z=i+1:=⟨_,rfl⟩
   have x0:IntKind.i64.wrap ((i:Int)+1)=(i':Int):=by have:=H2.out;rw [IntKind.wrap_i64];omega
   obtain ⟨b,off,rfl,hb,hC⟩:=(HT.out.below (nl _) HW.out).at hlt
   have k0:(0:Int)≤(i:Int):=by omega
   have k1:(i:Int)<(n:Int):=by omega
   have k2:i<n:=hlt
   have HMS:Hid (n - (RowKit.intOf (Value.int .i64 (i':Int))).toNat<n - (RowKit.intOf (Value.int .i64 (i:Int))).toNat):=by show _<_;simp [RowKit.intOf];omega
   have KK:=LH (HSP.out i hlt wr HW.out)
   rcases zD7 HK.out hlt Hi.out.2 with ⟨hp,hik⟩|⟨hp,hik⟩
   ·rw [hp] at KK
    have HR:Hid ((i:Int)=v):=by show (i:Int)=v;rw [HV.out,hik,if_pos (by omega)]
    clear hi' hp hik hb
    go_wp2_with (first
     |(go_at_call 130
       with_reducible refine KK.out.mono ?_
       rintro e w4 ⟨rfl,hb4⟩
       have HB4:=LH (zA1 HW.out hb4)
       clear hb4))
    go_ret
    exact ⟨zC3 HR.out,HB4.out⟩
   ·rw [hp] at KK
    have HI':Hid (i'≤n∧i'≤k):=by show _∧_;omega
    clear hi' hp hik hb
    go_wp2_with (first
     |(go_at_call 130
       with_reducible refine KK.out.mono ?_
       rintro e w4 ⟨rfl,hb4⟩
       have HB4:=LH (zA1 HW.out hb4)
       clear hb4))
    go_roundw
    case rel=>exact ⟨i',HI',rfl,HB4⟩
    case measure=>exact HMS.out
  ·have e:i=n:=by have:=Hi.out;omega
   have HR:Hid ((-1:Int)=v):=by show (-1:Int)=v;rw [HV.out,if_neg (by have:=Hi.out;omega)]
   have T0:decide ((i:Int)<(n:Int))=false:=by simp<;> omega
   have T0':decide (i<n)=false:=dF hlt
   clear e hlt
   go_wp2_with fail
   go_ret
   exact ⟨zC3 HR.out,HW.out⟩
theorem vol_has (A:Option Addr) (n c:Nat) (C:Nat→Int) (p:Nat→Bool) (w:World) (h2:n≤2000) (ht:IntIn w A n C) (f:Bool) (hf:f=true↔∃j,j<n∧p j=true)
 (SP:∀i,i<n→∀w',Below w.heap.size w w'→Calls Tryz.prog 130 #[.int .i64 (C i)] w' fun e w''=>e= .returned (.bool (p i))∧Below w'.heap.size w' w''):
 Calls Tryz.prog 129 #[.slice A n c,.func (.func 130) #[] #[]] w fun e w'=>e= .returned (.bool f)∧Below w.heap.size w w':=by
 obtain ⟨k,hk⟩:=zG8 p n
 have hany:=zF9 hk
 have S:=LH (vol_find A n c k C p w h2 ht hk _ rfl SP)
 by_cases hkn:k<n
 ·have hft:f=true:=hf.2 (hany.1 hkn)
  rw [if_pos hkn] at S
  have t:decide ((0:Int)≤(k:Int))=true:=dU (by omega)
  subst hft
  clear hk hany hkn hf ht h2 SP
  go_enter Tryz.func129,Tryz.ntmps129
  go_wp2_with (first |(go_at_call 174;(with_reducible refine (S.out).mono ?_);rintro e w1 ⟨rfl,hb1⟩;obtain ⟨hc1,hf1⟩:=zA8 hb1;have hz1:=hb1.size;(try simp at hz1);(try simp only [heap_drew,World.heap_drewN] at hz1 hc1 hf1);(try have hs1:=Nat.lt_of_succ_le hz1);(try have hs2:=Nat.lt_of_succ_lt hs1);(try have y0:w.heap.size<w1.heap.size:=by omega);(try have y1:w.heap.size+1<w1.heap.size:=by omega);(try have y2:w.heap.size+2<w1.heap.size:=by omega)))
  go_ret
  refine ⟨rfl,?_⟩
  (repeat' (first |assumption |exact bR _ _ |exact Below.size (by assumption)|(refine Below.setCell ?_ ?_ _)|(refine Below.alloc ?_ ?_ _)|(refine Below.drew ?_)|(refine zD0 ?_ _)|(refine Below.trans ?_ (Below.mono ‹Below _ _ _› ?_))|omega |(simp;done)|(simp;omega)|(simp at*;omega)))
 ·have hft:f=false:=by
   cases f with
   |false=>rfl
   |true=>exact absurd (hany.2 (hf.1 rfl)) hkn
  rw [if_neg hkn] at S
  subst hft
  clear hk hany hkn hf ht h2 SP
  go_enter Tryz.func129,Tryz.ntmps129
  go_wp2_with (first |(go_at_call 174;(with_reducible refine (S.out).mono ?_);rintro e w1 ⟨rfl,hb1⟩;obtain ⟨hc1,hf1⟩:=zA8 hb1;have hz1:=hb1.size;(try simp at hz1);(try simp only [heap_drew,World.heap_drewN] at hz1 hc1 hf1);(try have hs1:=Nat.lt_of_succ_le hz1);(try have hs2:=Nat.lt_of_succ_lt hs1);(try have y0:w.heap.size<w1.heap.size:=by omega);(try have y1:w.heap.size+1<w1.heap.size:=by omega);(try have y2:w.heap.size+2<w1.heap.size:=by omega)))
  go_ret
  refine ⟨rfl,?_⟩
  (repeat' (first |assumption |exact bR _ _ |exact Below.size (by assumption)|(refine Below.setCell ?_ ?_ _)|(refine Below.alloc ?_ ?_ _)|(refine Below.drew ?_)|(refine zD0 ?_ _)|(refine Below.trans ?_ (Below.mono ‹Below _ _ _› ?_))|omega |(simp;done)|(simp;omega)|(simp at*;omega)))
theorem sc_volumes (A:Option Addr) (n c:Nat) (C:Nat→Int) (w:World) (h2:n≤2000) (ht:IntIn w A n C) (f:Bool) (hf:f=true↔∃j,j<n∧badV (C j)):
 Calls Tryz.prog 83 #[.slice A n c] w fun e w'=>e= .returned (.bool (!f))∧Below w.heap.size w w':=by
 have S:=LH (vol_has A n c C (fun j=>boolOf (badV (C j))) w h2 ht f (hf.trans ⟨fun ⟨j,a,b⟩=>⟨j,a,zA2 b⟩,fun ⟨j,a,b⟩=>⟨j,a,zR1.1 b⟩⟩) (fun i _ w' _=>p_vol (C i) w'))
 clear h2 ht hf
 go_enter Tryz.func83,Tryz.ntmps83
 go_wp2_with (first |(go_at_call 129;(with_reducible refine (S.out).mono ?_);rintro e w1 ⟨rfl,hb1⟩;obtain ⟨hc1,hf1⟩:=zA8 hb1;have hz1:=hb1.size;(try simp at hz1);(try simp only [heap_drew,World.heap_drewN] at hz1 hc1 hf1);(try have hs1:=Nat.lt_of_succ_le hz1);(try have hs2:=Nat.lt_of_succ_lt hs1);(try have y0:w.heap.size<w1.heap.size:=by omega);(try have y1:w.heap.size+1<w1.heap.size:=by omega);(try have y2:w.heap.size+2<w1.heap.size:=by omega)))
 go_ret
 refine ⟨rfl,?_⟩
 (repeat' (first |assumption |exact bR _ _ |exact Below.size (by assumption)|(refine Below.setCell ?_ ?_ _)|(refine Below.alloc ?_ ?_ _)|(refine Below.drew ?_)|(refine zD0 ?_ _)|(refine Below.trans ?_ (Below.mono ‹Below _ _ _› ?_))|omega |(simp;done)|(simp;omega)|(simp at*;omega)))
set_option maxRecDepth 100000 in
set_option maxHeartbeats 4000000 in
theorem p_cmp (S:Sts) (i:Nat) (w:World) (h2:S.VN i≤2000) (ht:IntIn w (S.VA i) (S.VN i) (S.V i)):
 Calls Tryz.prog 82 #[.agg #[.slice (S.VA i) (S.VN i) (S.VC i),.slice (S.PA i) (S.PN i) (S.PC i),.slice (S.SA i) (S.SN i) (S.SC i),.slice (S.OA i) (S.ON i) (S.OC i)]] w fun e w'=>e= .returned (.bool (boolOf (∃j,j<S.VN i∧badV (S.V i j))))∧Below w.heap.size w w':=by
 have HX:Hid (Blk (w.alloc (Obj.cells #[.slice (S.VA i) (S.VN i) (S.VC i),.slice (S.PA i) (S.PN i) (S.PC i),.slice (S.SA i) (S.SN i) (S.SC i),.slice (S.OA i) (S.ON i) (S.OC i)] 77)) w.heap.size 77 #[.slice (S.VA i) (S.VN i) (S.VC i),.slice (S.PA i) (S.PN i) (S.PC i),.slice (S.SA i) (S.SN i) (S.SC i),.slice (S.OA i) (S.ON i) (S.OC i)]):=Blk.new _ _ _
 have HAL:Hid (Below w.heap.size w (w.alloc (Obj.cells #[.slice (S.VA i) (S.VN i) (S.VC i),.slice (S.PA i) (S.PN i) (S.PC i),.slice (S.SA i) (S.SN i) (S.SC i),.slice (S.OA i) (S.ON i) (S.OC i)] 77))):=(bR _ w).alloc (nl _) _
 have HT:=LH (ht.below (nl _) HAL.out)
 have H2:=LH h2
 obtain ⟨f,hf⟩:∃f,boolOf (∃j,j<S.VN i∧badV (S.V i j))=f:=⟨_,rfl⟩
 rw [hf]
 have HF:=LH hf
 clear ht h2 hf
 go_enter Tryz.func82,Tryz.ntmps82
 go_upto_region 1 with fail
 generalize w.alloc (Obj.cells #[.slice (S.VA i) (S.VN i) (S.VC i),.slice (S.PA i) (S.PN i) (S.PC i),.slice (S.SA i) (S.SN i) (S.SC i),.slice (S.OA i) (S.ON i) (S.OC i)] 77)=W at HX HAL HT⊢
 have e0:=HX.out.cell 0
 simp only [List.getElem?_toArray,List.getElem?_cons_zero,List.getElem?_cons_succ] at e0
 have S1:=LH (sc_volumes (S.VA i) (S.VN i) (S.VC i) (S.V i) W H2.out HT.out f (by rw [←HF.out];exact zR1))
 go_wp2_with (first
  |(go_at_call 83
    with_reducible refine S1.out.mono ?_
    rintro e w4 ⟨rfl,hb4⟩
    have HB4:=LH (zA1 HAL.out hb4)
    clear hb4))
 go_ret
 exact ⟨by simp,HB4.out⟩
set_option maxRecDepth 100000 in
set_option maxHeartbeats 4000000 in
theorem cmp_find (A:Option Addr) (n c k:Nat) (S:Sts) (p:Nat→Bool) (w:World) (h2:n≤2000) (ht:StIn w A n S) (hk:FirstAt p n k) (v:Int) (hv:v=if k<n then (k:Int) else -1)
 (SP:∀i,i<n→∀w',Below w.heap.size w w'→Calls Tryz.prog 82 #[.agg #[.slice (S.VA i) (S.VN i) (S.VC i),.slice (S.PA i) (S.PN i) (S.PC i),.slice (S.SA i) (S.SN i) (S.SC i),.slice (S.OA i) (S.ON i) (S.OC i)]] w' fun e w''=>e= .returned (.bool (p i))∧Below w'.heap.size w' w''):
 Calls Tryz.prog 80 #[.slice A n c,.func (.func 82) #[] #[]] w fun e w'=>e= .returned (.int .i64 v)∧Below w.heap.size w w':=by
 have HT:=LH ht
 have HK:=LH hk
 have H2:=LH h2
 have HV:=LH hv
 have HSP:=LH SP
 clear ht hk h2 hv SP
 go_enter Tryz.func80,Tryz.ntmps80
 go_wp2_with fail
 go_loopw [8] (fun u wr=>∃i:Nat,Hid (i≤n∧i≤k)∧u= .int .i64 i∧Hid (Below w.heap.size w wr)) (fun u _=>n - (RowKit.intOf u).toNat)
 case atStart=>exact ⟨0,⟨Nat.zero_le _,Nat.zero_le _⟩,rfl,bR _ _⟩
 case round=>
  obtain ⟨i,Hi,rfl,HW⟩:=hrel
  by_cases hlt:i<n
  ·have T0:decide ((i:Int)<(n:Int))=true:=by simp<;> omega
   have T0':decide (i<n)=true:=dU hlt
   obtain ⟨i',hi'⟩:∃z,z=i+1:=⟨_,rfl⟩
   have x0:IntKind.i64.wrap ((i:Int)+1)=(i':Int):=by have:=H2.out;rw [IntKind.wrap_i64];omega
   obtain ⟨b,off,rfl,hb,hC⟩:=(HT.out.below (nl _) HW.out).row hlt
   have HC:=LH hC
   clear hC
   have k0:(0:Int)≤(i:Int):=by omega
   have k1:(i:Int)<(n:Int):=by omega
   have k2:i<n:=hlt
   have HMS:Hid (n - (RowKit.intOf (Value.int .i64 (i':Int))).toNat<n - (RowKit.intOf (Value.int .i64 (i:Int))).toNat):=by show _<_;simp [RowKit.intOf];omega
   have KK:=LH (HSP.out i hlt wr HW.out)
   rcases zD7 HK.out hlt Hi.out.2 with ⟨hp,hik⟩|⟨hp,hik⟩
   ·rw [hp] at KK
    have HR:Hid ((i:Int)=v):=by show (i:Int)=v;rw [HV.out,hik,if_pos (by omega)]
    clear hi' hp hik hb
    go_wp2_with (first
     |(refine wpList_load_mid rfl 77 (.tmp 14) rfl b (off+i*4) rfl _ _ HC.out Tryz.underlying77 rfl (by kernel_rfl) ?_)
     |(go_at_call 82
       with_reducible refine KK.out.mono ?_
       rintro e w4 ⟨rfl,hb4⟩
       have HB4:=LH (zA1 HW.out hb4)
       clear hb4))
    go_ret
    exact ⟨zC3 HR.out,HB4.out⟩
   ·rw [hp] at KK
    have HI':Hid (i'≤n∧i'≤k):=by show _∧_;omega
    clear hi' hp hik hb
    go_wp2_with (first
     |(refine wpList_load_mid rfl 77 (.tmp 14) rfl b (off+i*4) rfl _ _ HC.out Tryz.underlying77 rfl (by kernel_rfl) ?_)
     |(go_at_call 82
       with_reducible refine KK.out.mono ?_
       rintro e w4 ⟨rfl,hb4⟩
       have HB4:=LH (zA1 HW.out hb4)
       clear hb4))
    go_roundw
    case rel=>exact ⟨i',HI',rfl,HB4⟩
    case measure=>exact HMS.out
  ·have e:i=n:=by have:=Hi.out;omega
   have HR:Hid ((-1:Int)=v):=by show (-1:Int)=v;rw [HV.out,if_neg (by have:=Hi.out;omega)]
   have T0:decide ((i:Int)<(n:Int))=false:=by simp<;> omega
   have T0':decide (i<n)=false:=dF hlt
   clear e hlt
   go_wp2_with fail
   go_ret
   exact ⟨zC3 HR.out,HW.out⟩
theorem cmp_has (A:Option Addr) (n c:Nat) (S:Sts) (p:Nat→Bool) (w:World) (h2:n≤2000) (ht:StIn w A n S) (f:Bool) (hf:f=true↔∃j,j<n∧p j=true)
 (SP:∀i,i<n→∀w',Below w.heap.size w w'→Calls Tryz.prog 82 #[.agg #[.slice (S.VA i) (S.VN i) (S.VC i),.slice (S.PA i) (S.PN i) (S.PC i),.slice (S.SA i) (S.SN i) (S.SC i),.slice (S.OA i) (S.ON i) (S.OC i)]] w' fun e w''=>e= .returned (.bool (p i))∧Below w'.heap.size w' w''):
 Calls Tryz.prog 37 #[.slice A n c,.func (.func 82) #[] #[]] w fun e w'=>e= .returned (.bool f)∧Below w.heap.size w w':=by
 obtain ⟨k,hk⟩:=zG8 p n
 have hany:=zF9 hk
 have S9:=LH (cmp_find A n c k S p w h2 ht hk _ rfl SP)
 by_cases hkn:k<n
 ·have hft:f=true:=hf.2 (hany.1 hkn)
  rw [if_pos hkn] at S9
  have t:decide ((0:Int)≤(k:Int))=true:=dU (by omega)
  subst hft
  clear hk hany hkn hf ht h2 SP
  go_enter Tryz.func37,Tryz.ntmps37
  go_wp2_with (first |(go_at_call 80;(with_reducible refine (S9.out).mono ?_);rintro e w1 ⟨rfl,hb1⟩;obtain ⟨hc1,hf1⟩:=zA8 hb1;have hz1:=hb1.size;(try simp at hz1);(try simp only [heap_drew,World.heap_drewN] at hz1 hc1 hf1);(try have hs1:=Nat.lt_of_succ_le hz1);(try have hs2:=Nat.lt_of_succ_lt hs1);(try have y0:w.heap.size<w1.heap.size:=by omega);(try have y1:w.heap.size+1<w1.heap.size:=by omega);(try have y2:w.heap.size+2<w1.heap.size:=by omega)))
  go_ret
  refine ⟨rfl,?_⟩
  (repeat' (first |assumption |exact bR _ _ |exact Below.size (by assumption)|(refine Below.setCell ?_ ?_ _)|(refine Below.alloc ?_ ?_ _)|(refine Below.drew ?_)|(refine zD0 ?_ _)|(refine Below.trans ?_ (Below.mono ‹Below _ _ _› ?_))|omega |(simp;done)|(simp;omega)|(simp at*;omega)))
 ·have hft:f=false:=by
   cases f with
   |false=>rfl
   |true=>exact absurd (hany.2 (hf.1 rfl)) hkn
  rw [if_neg hkn] at S9
  subst hft
  clear hk hany hkn hf ht h2 SP
  go_enter Tryz.func37,Tryz.ntmps37
  go_wp2_with (first |(go_at_call 80;(with_reducible refine (S9.out).mono ?_);rintro e w1 ⟨rfl,hb1⟩;obtain ⟨hc1,hf1⟩:=zA8 hb1;have hz1:=hb1.size;(try simp at hz1);(try simp only [heap_drew,World.heap_drewN] at hz1 hc1 hf1);(try have hs1:=Nat.lt_of_succ_le hz1);(try have hs2:=Nat.lt_of_succ_lt hs1);(try have y0:w.heap.size<w1.heap.size:=by omega);(try have y1:w.heap.size+1<w1.heap.size:=by omega);(try have y2:w.heap.size+2<w1.heap.size:=by omega)))
  go_ret
  refine ⟨rfl,?_⟩
  (repeat' (first |assumption |exact bR _ _ |exact Below.size (by assumption)|(refine Below.setCell ?_ ?_ _)|(refine Below.alloc ?_ ?_ _)|(refine Below.drew ?_)|(refine zD0 ?_ _)|(refine Below.trans ?_ (Below.mono ‹Below _ _ _› ?_))|omega |(simp;done)|(simp;omega)|(simp at*;omega)))
set_option maxRecDepth 100000 in
set_option maxHeartbeats 4000000 in
theorem p_wide (S:Sts) (i:Nat) (w:World):
 Calls Tryz.prog 36 #[.agg #[.slice (S.VA i) (S.VN i) (S.VC i),.slice (S.PA i) (S.PN i) (S.PC i),.slice (S.SA i) (S.SN i) (S.SC i),.slice (S.OA i) (S.ON i) (S.OC i)]] w fun e w'=>e= .returned (.bool (decide (12<S.VN i)))∧Below w.heap.size w w':=by
 have HX:Hid (Blk (w.alloc (Obj.cells #[.slice (S.VA i) (S.VN i) (S.VC i),.slice (S.PA i) (S.PN i) (S.PC i),.slice (S.SA i) (S.SN i) (S.SC i),.slice (S.OA i) (S.ON i) (S.OC i)] 77)) w.heap.size 77 #[.slice (S.VA i) (S.VN i) (S.VC i),.slice (S.PA i) (S.PN i) (S.PC i),.slice (S.SA i) (S.SN i) (S.SC i),.slice (S.OA i) (S.ON i) (S.OC i)]):=Blk.new _ _ _
 have HAL:Hid (Below w.heap.size w (w.alloc (Obj.cells #[.slice (S.VA i) (S.VN i) (S.VC i),.slice (S.PA i) (S.PN i) (S.PC i),.slice (S.SA i) (S.SN i) (S.SC i),.slice (S.OA i) (S.ON i) (S.OC i)] 77))):=(bR _ w).alloc (nl _) _
 obtain ⟨f,hf⟩:∃f,decide (12<S.VN i)=f:=⟨_,rfl⟩
 have hf':decide ((12:Int)<(S.VN i:Int))=f:=by rw [←hf];by_cases q:12<S.VN i<;> simp [q]<;> omega
 rw [hf]
 go_enter Tryz.func36,Tryz.ntmps36
 go_upto_region 1 with fail
 generalize w.alloc (Obj.cells #[.slice (S.VA i) (S.VN i) (S.VC i),.slice (S.PA i) (S.PN i) (S.PC i),.slice (S.SA i) (S.SN i) (S.SC i),.slice (S.OA i) (S.ON i) (S.OC i)] 77)=W at HX HAL⊢
 have e0:=HX.out.cell 0
 simp only [List.getElem?_toArray,List.getElem?_cons_zero,List.getElem?_cons_succ] at e0
 go_wp2_with fail
 go_ret
 exact ⟨rfl,HAL.out⟩
set_option maxRecDepth 100000 in
set_option maxHeartbeats 4000000 in
theorem wide_find (A:Option Addr) (n c k:Nat) (S:Sts) (p:Nat→Bool) (w:World) (h2:n≤2000) (ht:StIn w A n S) (hk:FirstAt p n k) (v:Int) (hv:v=if k<n then (k:Int) else -1)
 (SP:∀i,i<n→∀w',Below w.heap.size w w'→Calls Tryz.prog 36 #[.agg #[.slice (S.VA i) (S.VN i) (S.VC i),.slice (S.PA i) (S.PN i) (S.PC i),.slice (S.SA i) (S.SN i) (S.SC i),.slice (S.OA i) (S.ON i) (S.OC i)]] w' fun e w''=>e= .returned (.bool (p i))∧Below w'.heap.size w' w''):
 Calls Tryz.prog 80 #[.slice A n c,.func (.func 36) #[] #[]] w fun e w'=>e= .returned (.int .i64 v)∧Below w.heap.size w w':=by
 have HT:=LH ht
 have HK:=LH hk
 have H2:=LH h2
 have HV:=LH hv
 have HSP:=LH SP
 clear ht hk h2 hv SP
 go_enter Tryz.func80,Tryz.ntmps80
 go_wp2_with fail
 go_loopw [8] (fun u wr=>∃i:Nat,Hid (i≤n∧i≤k)∧u= .int .i64 i∧Hid (Below w.heap.size w wr)) (fun u _=>n - (RowKit.intOf u).toNat)
 case atStart=>exact ⟨0,⟨Nat.zero_le _,Nat.zero_le _⟩,rfl,bR _ _⟩
 case round=>
  obtain ⟨i,Hi,rfl,HW⟩:=hrel
  by_cases hlt:i<n
  ·have T0:decide ((i:Int)<(n:Int))=true:=by simp<;> omega
   have T0':decide (i<n)=true:=dU hlt
   obtain ⟨i',hi'⟩:∃z,z=i+1:=⟨_,rfl⟩
   have x0:IntKind.i64.wrap ((i:Int)+1)=(i':Int):=by have:=H2.out;rw [IntKind.wrap_i64];omega
   obtain ⟨b,off,rfl,hb,hC⟩:=(HT.out.below (nl _) HW.out).row hlt
   have HC:=LH hC
   clear hC
   have k0:(0:Int)≤(i:Int):=by omega
   have k1:(i:Int)<(n:Int):=by omega
   have k2:i<n:=hlt
   have HMS:Hid (n - (RowKit.intOf (Value.int .i64 (i':Int))).toNat<n - (RowKit.intOf (Value.int .i64 (i:Int))).toNat):=by show _<_;simp [RowKit.intOf];omega
   have KK:=LH (HSP.out i hlt wr HW.out)
   rcases zD7 HK.out hlt Hi.out.2 with ⟨hp,hik⟩|⟨hp,hik⟩
   ·rw [hp] at KK
    have HR:Hid ((i:Int)=v):=by show (i:Int)=v;rw [HV.out,hik,if_pos (by omega)]
    clear hi' hp hik hb
    go_wp2_with (first
     |(refine wpList_load_mid rfl 77 (.tmp 14) rfl b (off+i*4) rfl _ _ HC.out Tryz.underlying77 rfl (by kernel_rfl) ?_)
     |(go_at_call 36
       with_reducible refine KK.out.mono ?_
       rintro e w4 ⟨rfl,hb4⟩
       have HB4:=LH (zA1 HW.out hb4)
       clear hb4))
    go_ret
    exact ⟨zC3 HR.out,HB4.out⟩
   ·rw [hp] at KK
    have HI':Hid (i'≤n∧i'≤k):=by show _∧_;omega
    clear hi' hp hik hb
    go_wp2_with (first
     |(refine wpList_load_mid rfl 77 (.tmp 14) rfl b (off+i*4) rfl _ _ HC.out Tryz.underlying77 rfl (by kernel_rfl) ?_)
     |(go_at_call 36
       with_reducible refine KK.out.mono ?_
       rintro e w4 ⟨rfl,hb4⟩
       have HB4:=LH (zA1 HW.out hb4)
       clear hb4))
    go_roundw
    case rel=>exact ⟨i',HI',rfl,HB4⟩
    case measure=>exact HMS.out
  ·have e:i=n:=by have:=Hi.out;omega
   have HR:Hid ((-1:Int)=v):=by show (-1:Int)=v;rw [HV.out,if_neg (by have:=Hi.out;omega)]
   have T0:decide ((i:Int)<(n:Int))=false:=by simp<;> omega
   have T0':decide (i<n)=false:=dF hlt
   clear e hlt
   go_wp2_with fail
   go_ret
   exact ⟨zC3 HR.out,HW.out⟩
theorem wide_has (A:Option Addr) (n c:Nat) (S:Sts) (p:Nat→Bool) (w:World) (h2:n≤2000) (ht:StIn w A n S) (f:Bool) (hf:f=true↔∃j,j<n∧p j=true)
 (SP:∀i,i<n→∀w',Below w.heap.size w w'→Calls Tryz.prog 36 #[.agg #[.slice (S.VA i) (S.VN i) (S.VC i),.slice (S.PA i) (S.PN i) (S.PC i),.slice (S.SA i) (S.SN i) (S.SC i),.slice (S.OA i) (S.ON i) (S.OC i)]] w' fun e w''=>e= .returned (.bool (p i))∧Below w'.heap.size w' w''):
 Calls Tryz.prog 37 #[.slice A n c,.func (.func 36) #[] #[]] w fun e w'=>e= .returned (.bool f)∧Below w.heap.size w w':=by
 obtain ⟨k,hk⟩:=zG8 p n
 have hany:=zF9 hk
 have S9:=LH (wide_find A n c k S p w h2 ht hk _ rfl SP)
 by_cases hkn:k<n
 ·have hft:f=true:=hf.2 (hany.1 hkn)
  rw [if_pos hkn] at S9
  have t:decide ((0:Int)≤(k:Int))=true:=dU (by omega)
  subst hft
  clear hk hany hkn hf ht h2 SP
  go_enter Tryz.func37,Tryz.ntmps37
  go_wp2_with (first |(go_at_call 80;(with_reducible refine (S9.out).mono ?_);rintro e w1 ⟨rfl,hb1⟩;obtain ⟨hc1,hf1⟩:=zA8 hb1;have hz1:=hb1.size;(try simp at hz1);(try simp only [heap_drew,World.heap_drewN] at hz1 hc1 hf1);(try have hs1:=Nat.lt_of_succ_le hz1);(try have hs2:=Nat.lt_of_succ_lt hs1);(try have y0:w.heap.size<w1.heap.size:=by omega);(try have y1:w.heap.size+1<w1.heap.size:=by omega);(try have y2:w.heap.size+2<w1.heap.size:=by omega)))
  go_ret
  refine ⟨rfl,?_⟩
  (repeat' (first |assumption |exact bR _ _ |exact Below.size (by assumption)|(refine Below.setCell ?_ ?_ _)|(refine Below.alloc ?_ ?_ _)|(refine Below.drew ?_)|(refine zD0 ?_ _)|(refine Below.trans ?_ (Below.mono ‹Below _ _ _› ?_))|omega |(simp;done)|(simp;omega)|(simp at*;omega)))
 ·have hft:f=false:=by
   cases f with
   |false=>rfl
   |true=>exact absurd (hany.2 (hf.1 rfl)) hkn
  rw [if_neg hkn] at S9
  subst hft
  clear hk hany hkn hf ht h2 SP
  go_enter Tryz.func37,Tryz.ntmps37
  go_wp2_with (first |(go_at_call 80;(with_reducible refine (S9.out).mono ?_);rintro e w1 ⟨rfl,hb1⟩;obtain ⟨hc1,hf1⟩:=zA8 hb1;have hz1:=hb1.size;(try simp at hz1);(try simp only [heap_drew,World.heap_drewN] at hz1 hc1 hf1);(try have hs1:=Nat.lt_of_succ_le hz1);(try have hs2:=Nat.lt_of_succ_lt hs1);(try have y0:w.heap.size<w1.heap.size:=by omega);(try have y1:w.heap.size+1<w1.heap.size:=by omega);(try have y2:w.heap.size+2<w1.heap.size:=by omega)))
  go_ret
  refine ⟨rfl,?_⟩
  (repeat' (first |assumption |exact bR _ _ |exact Below.size (by assumption)|(refine Below.setCell ?_ ?_ _)|(refine Below.alloc ?_ ?_ _)|(refine Below.drew ?_)|(refine zD0 ?_ _)|(refine Below.trans ?_ (Below.mono ‹Below _ _ _› ?_))|omega |(simp;done)|(simp;omega)|(simp at*;omega)))
end Go.Proofs.YtchakniaoeodmaaGreatDoor

/- Merged texts of these proofs: Cln, CpI, WyP, WtP, NEd, NEe, NEf, NNo, Rem, Cpy, Wot. -/
import Derived.Test.YtchakniaoeodmaaGreatDoorMgS
import Derived.Test.YtchakniaoeodmaaGreatDoorMgD
import Derived.Test.YtchakniaoeodmaaGreatDoorNetV
import Derived.Deep.AppendLies
namespace Go.Proofs.YtchakniaoeodmaaGreatDoor
open Go.RowKit
set_option linter.unusedVariables false
set_option linter.unusedSimpArgs false
theorem kaddr (b off j:Nat):(⟨b,off,none⟩:Addr).add j=⟨b,off+j,none⟩:=by
 unfold Addr.add
 by_cases h:j=0
 ·subst h;rfl
 ·simp [h]
theorem knews {w:World} {b off n:Nat} {X Y:Nat→Int} (ht:TabAt w b off n X Y):∀j u,(kc (edl n X Y))[j]?=some u→w.cell? ((⟨b,off,none⟩:Addr).add j)=some u:=by
 intro j u hj
 have hlen:j<(kc (edl n X Y)).length:=by
  rcases Nat.lt_or_ge j (kc (edl n X Y)).length with h |h
  ·exact h
  ·rw [List.getElem?_eq_none h] at hj;cases hj
 rw [kc_len,zD6] at hlen
 have hk:j / 2<n:=by omega
 obtain ⟨h1,h2⟩:=kc_at (edl n X Y) (j / 2) (by rw [zD6];exact hk)
 obtain ⟨e1,e2⟩:=zV3 (X:=X) (Y:=Y) hk
 rw [e1] at h1
 rw [e2] at h2
 have hT:=ht.2 (j / 2) hk
 by_cases hp:j % 2=0
 ·have e:j=j / 2*2:=by omega
  rw [←e] at h1 hT
  rw [hj] at h1
  rw [Option.some.inj h1]
  rw [kaddr];exact hT.1
 ·have e:j=j / 2*2+1:=by omega
  have e':off+j / 2*2+1=off+j:=by omega
  rw [←e] at h2
  rw [e'] at hT
  rw [hj] at h2
  rw [Option.some.inj h2]
  rw [kaddr];exact hT.2
theorem kc_one_ (L:List (Int×Int)):∀u∈kc L,u.oneCell'=true:=by
 intro u hu
 unfold kc at hu
 rw [List.mem_flatMap] at hu
 obtain ⟨p,_,hu⟩:=hu
 simp at hu
 rcases hu with rfl |rfl<;> rfl
theorem TabIn.eqv {w:World} {A:Option Addr} {n:Nat} {F G F' G':Nat→Int} (h:TabIn w A n F G) (h1:∀i,i<n→F i=F' i∧G i=G' i):TabIn w A n F' G':=by
 refine ⟨h.1,?_⟩
 rcases h.2 with h0 |⟨b,off,hb,h2,h3⟩
 ·exact .inl h0
 ·exact .inr ⟨b,off,hb,h2,fun k hk=>by rw [←(h1 k hk).1,←(h1 k hk).2];exact h3 k hk⟩
theorem h63_k {a b:Nat} (ha:a≤2000) (hb:b≤2000):a+b≤maxLen:=by simp only [maxLen];omega
theorem hby_k {a b:Nat} (ha:a≤2000) (hb:b≤2000):(a+b)*16≤140737488355328:=by omega
theorem kown_tab {w:World} {B g cap n:Nat} {X Y:Nat→Int} (h:w.ownsRow B 141 2 (.slice (some ⟨g,0,none⟩) n cap) n (kc (edl n X Y))) (h2:n≤2000):TabIn w (some ⟨g,0,none⟩) n X Y:=by
 have h3:w.ownsRow B 141 2 (.slice (some ⟨g,0,none⟩) (edl n X Y).length cap) (edl n X Y).length (kc (edl n X Y)):=by rw [zD6];exact h
 have ht:=tab_of_kc h3
 rw [zD6] at ht
 exact TabIn.eqv ⟨by omega,.inr ⟨g,0,rfl,ht⟩⟩ fun i hi=>zV3 hi
def KClPost (n:Nat) (X Y:Nat→Int) (w:World) (e:Ending) (w':World):Prop:=∃(A:Option Addr) (c:Nat),e= .returned (.slice A n c)∧TabIn w' A n X Y∧(n≠0→∃g,A=some ⟨g,0,none⟩∧w.heap.size≤g)∧Below w.heap.size w w'
theorem zU5 {w:World} {base:Nat} {v:Value} (hown:w.ownsRow base 141 2 v 0 []) (A:Option Addr) (c:Nat) (ty:TypeId):(Builtin.append_ #[28,28] ty #[v,.slice A 0 c]).run Tryz.prog w= .ok v w:=by
 obtain ⟨i0,hi,hz0,hs0,hby⟩:=zB2 info39
 rcases hown.2 with ⟨rfl,_⟩|⟨g,cap,cur,rfl,_,_,hnc,_⟩
 ·cases A<;> simp [Builtin.append_,run_underlying Tryz.underlying28,sizeOf,typeInfo,hi,Builtin.lenOf,Builtin.firstCells,loadCells,loadCellsFrom,storeCells]
 ·cases A<;> simp [Builtin.append_,run_underlying Tryz.underlying28,sizeOf,typeInfo,hi,Builtin.lenOf,Builtin.firstCells,loadCells,loadCellsFrom,storeCells]
set_option maxRecDepth 100000 in
set_option maxHeartbeats 4000000 in
theorem kclone1 (b off n c:Nat) (X Y:Nat→Int) (h1:0<n) (h2:n≤2000) (w:World) (hT:TabAt w b off n X Y):
 Calls Tryz.prog 118 #[.slice (some ⟨b,off,none⟩) n c] w (KClPost n X Y w):=by
 have HT:=LH hT
 have H1:=LH h1
 have H2:=LH h2
 have HO0:Hid ((w.alloc (.cells #[] 141)).ownsRow w.heap.size 141 2 (.slice (some ⟨w.heap.size,0,none⟩) 0 0) 0 []):=World.ownsRow_lit w #[] 0 (nl _) (by unfold maxLen;omega) rfl
 have HB0:Hid (Below w.heap.size w (w.alloc (.cells #[] 141))):=(bR _ w).alloc (nl _) _
 obtain ⟨SI0,si0,sz0,sz1,sz2⟩:=zB2 info39
 have SI1:=LH si0
 have SI2:=LH sz0
 have SI3:=LH sz1
 have SI4:=LH sz2
 clear si0 sz0 sz1 sz2
 have hnil:∀w,(binOp .eql 28 (.slice (some ⟨b,off,none⟩) n c) (.slice none 0 0)).run Tryz.prog w= .ok (.bool false) w:=fun w=>by kernel_rfl
 clear hT h1 h2
 go_enter Tryz.func118,Tryz.ntmps118
 go_wp2_with (first
  |(at_builtin;refine wpList_append_own_at _ ?scaa (.tmp 5) (.tmp 6) 28 ?scab (w.heap.size) 141 SI0 (.agg #[.int .i64 0,.int .i64 0]) 2 16 Tryz.underlying28 SI1.out SI2.out SI3.out SI4.out ?scac ?scad (.slice (some ⟨w.heap.size,0,none⟩) 0 0) (0) ([]) ?scae (HO0.out) (⟨b,off,none⟩) (n) (c) (kc (edl n X Y)) ?scag (by rw [kc_len,zD6]) (knews (HT.out.below HB0.out HT.out.1)) (kc_one_ _) (h63_k (Nat.zero_le _) H2.out) (hby_k (Nat.zero_le _) H2.out) (HB0.out.size) ?scah
    case scaa=>exact rfl
    case scab=>exact rfl
    case scac=>exact rfl
    case scad=>decide
    case scae=>exact rfl
    case scag=>exact rfl
    intro v2 w4 hown2 hgrow2 hnil2 hat2
    obtain ⟨g2,cap2,rfl,hb2,hl2⟩:=hown2.form (by have:=H1.out;omega)
    rw [Nat.zero_add,List.nil_append] at hown2
    rw [Nat.zero_add]
    have HM2:=LH (And.intro hown2 (zK0 HO0.out HB0.out hgrow2))
    clear hown2 hgrow2 hnil2 hat2))
 go_ret
 exact ⟨_,cap2,rfl,kown_tab HM2.out.1 H2.out,fun _=>⟨g2,rfl,(HM2.out.1.lt g2 rfl).1⟩,HM2.out.2⟩
set_option maxRecDepth 100000 in
theorem kclone0 (A:Option Addr) (c:Nat) (X Y:Nat→Int) (w:World):Calls Tryz.prog 118 #[.slice A 0 c] w (KClPost 0 X Y w):=by
 cases A with
 |none=>
  have hnil:∀w,(binOp .eql 28 (.slice none 0 c) (.slice none 0 0)).run Tryz.prog w= .ok (.bool true) w:=fun w=>by kernel_rfl
  go_enter Tryz.func118,Tryz.ntmps118
  go_wp2_with fail
  go_ret
  exact ⟨none,0,rfl,⟨by omega,.inl rfl⟩,fun h=>absurd rfl h,bR _ _⟩
 |some a=>
  have hnil:∀w,(binOp .eql 28 (.slice (some a) 0 c) (.slice none 0 0)).run Tryz.prog w= .ok (.bool false) w:=fun w=>by kernel_rfl
  have HO0:Hid ((w.alloc (.cells #[] 141)).ownsRow w.heap.size 141 2 (.slice (some ⟨w.heap.size,0,none⟩) 0 0) 0 []):=World.ownsRow_lit w #[] 0 (nl _) (by unfold maxLen;omega) rfl
  have HB0:Hid (Below w.heap.size w (w.alloc (.cells #[] 141))):=(bR _ w).alloc (nl _) _
  go_enter Tryz.func118,Tryz.ntmps118
  go_wp2_with (at_builtin;refine Lib.wpList_append_run _ rfl _ _ _ _ rfl _ _ rfl rfl _ _ (zU5 HO0.out _ _ _) ?_)
  go_ret
  exact ⟨_,0,rfl,⟨by omega,.inl rfl⟩,fun h=>absurd rfl h,HB0.out⟩
theorem kclone (A:Option Addr) (n c:Nat) (X Y:Nat→Int) (h2:n≤2000) (w:World) (hT:TabIn w A n X Y):Calls Tryz.prog 118 #[.slice A n c] w (KClPost n X Y w):=by
 rcases hT.2 with rfl |⟨b,off,rfl,ht⟩
 ·exact kclone0 A c X Y w
 ·by_cases h:n=0
  ·subst h;exact kclone0 _ c X Y w
  ·exact kclone1 b off n c X Y (by omega) h2 w ht
theorem infoNd9:(Tryz.prog.info? 30).map (fun i=>(i.zero,i.size,i.bytes))=some (some (.agg #[.string ⟨#[]⟩,.int .i64 0,.int .i64 0,.int .i64 0,.int .i64 0,.int .i64 0,.slice none 0 0,.bool false,.int .i64 0]),9,96):=by kernel_rfl
theorem zS7:(Tryz.prog.info? 32).map (fun i=>(i.zero,i.size,i.bytes))=some (some (.agg #[.string ⟨#[]⟩,.string ⟨#[]⟩,.string ⟨#[]⟩,.int .i64 0,.int .i64 0,.int .i64 0,.int .i64 0,.string ⟨#[]⟩,.int .i64 0,.int .i64 0,.slice none 0 0]),11,136):=by kernel_rfl
structure CpI (w:World) (NM:List Ndm) (LM:List Lkm) (vn vl:Value) (W:World):Prop where
 nt:Blk W w.heap.size 52 #[vn,vl]
 on:W.ownsRow (w.heap.size+1) 30 9 vn NM.length (nc NM)
 ol:W.ownsRow (w.heap.size+1) 32 11 vl LM.length (lc LM)
 tn:TabsN (w.heap.size+1) W vn.ownBlock vl.ownBlock NM
 tl:TabsL (w.heap.size+1) W vn.ownBlock vl.ownBlock LM
 bl:Below w.heap.size w W
theorem CpI.size {w W:World} {NM:List Ndm} {LM:List Lkm} {vn vl:Value} (h:CpI w NM LM vn vl W):w.heap.size+1≤W.heap.size:=h.nt.lt
theorem CpI.start (w:World):CpI w [] [] (.slice none 0 0) (.slice none 0 0) (w.alloc (Obj.cells #[.slice none 0 0,.slice none 0 0] 52)):=
 ⟨Blk.new _ _ _,World.ownsRow_nil _ _ _ _,World.ownsRow_nil _ _ _ _,fun p hp=>absurd hp (by simp),fun p hp=>absurd hp (by simp),(bR _ w).alloc (nl _) _⟩
theorem CpI.call {w W W':World} {NM:List Ndm} {LM:List Lkm} {vn vl:Value} (h:CpI w NM LM vn vl W) (hb:Below W.heap.size W W'):CpI w NM LM vn vl W':=
 ⟨h.nt.call hb,zC0 h.on hb,zC0 h.ol hb,
  fun p hp=>⟨(h.tn p hp).1.below (nl _) hb,(h.tn p hp).2⟩,fun p hp=>⟨(h.tl p hp).1.below (nl _) hb,(h.tl p hp).2⟩,zA1 h.bl hb⟩
theorem CpI.keep {w W w8:World} {NM:List Ndm} {LM:List Lkm} {vn vl v v':Value} {tmp:Obj} {i:Nat} {B0:Nat} (h:CpI w NM LM vn vl W) (hv:v=vn∨v=vl) (hg:(W.alloc tmp).grownBy w8 v.ownBlock) (hat:v'.ownBlock=v.ownBlock∨v'.ownBlock=some (W.heap.size+1)):
 (∀{j:Nat} {t:TypeId} {cs:Array Value},j<w.heap.size+1→Blk W j t cs→Blk w8 j t cs)∧
 (∀{A:Option Addr} {n:Nat} {F G:Nat→Int},TabIn W A n F G→(n≠0→∀b off,A=some ⟨b,off,none⟩→w.heap.size+1≤b∧some b≠vn.ownBlock∧some b≠vl.ownBlock)→TabIn (w8.setCell ⟨w.heap.size,i,none⟩ v') A n F G∧(n≠0→∀b off,A=some ⟨b,off,none⟩→some b≠v'.ownBlock))∧
 Below w.heap.size w (w8.setCell ⟨w.heap.size,i,none⟩ v'):=by
 have hsz:=h.size
 have hnb:∀g,v.ownBlock=some g→w.heap.size+1≤g:=fun g e=>by
  rcases hv with rfl |rfl
  ·exact (h.on.lt g e).1
  ·exact (h.ol.lt g e).1
 have hset:=zG1 w8 (w.heap.size) i v'
 have hal:Below W.heap.size W (W.alloc tmp):=(bR _ W).alloc (nl _) tmp
 refine ⟨fun hj hb=>(hb.alloc tmp).grown hg (fun e=>by have:=hnb _ e.symm;omega),fun {A n F G} ht hA=>⟨?_,?_⟩,?_⟩
 ·refine ((ht.below (nl _) hal).grown hg (fun hn b off e=>?_)).grown hset (fun hn b off e e2=>by have:=Option.some.inj e2;have:=(hA hn b off e).1;omega)
  rcases hv with rfl |rfl
  ·exact (hA hn b off e).2.1
  ·exact (hA hn b off e).2.2
 ·intro hn b off e e2
  rcases hat with h2 |h2
  ·rw [h2] at e2
   rcases hv with rfl |rfl
   ·exact (hA hn b off e).2.1 e2
   ·exact (hA hn b off e).2.2 e2
  ·rw [h2] at e2
   have:=Option.some.inj e2
   rw [e] at ht
   have:=ht.blk_lt hn
   omega
 ·exact (zA9 (h.bl.alloc (by omega) tmp) (by simp;omega) hg (fun g e=>by have:=hnb g e;omega)).setCell (p:=⟨w.heap.size,i,none⟩) (nl _) _
theorem CpI.nodeApp {w W w8:World} {NM:List Ndm} {LM:List Lkm} {vn vl vn':Value} {p:Ndm} {tmp:Obj} (h:CpI w NM LM vn vl W) (hp:TabIn W p.A p.x.T.length (kX p.x.T) (kY p.x.T)) (hpA:p.x.T.length≠0→∀b off,p.A=some ⟨b,off,none⟩→w.heap.size+1≤b∧some b≠vn.ownBlock∧some b≠vl.ownBlock)
 (hown:w8.ownsRow (w.heap.size+1) 30 9 vn' (NM.length+1) (nc NM++ncm p)) (hg:(W.alloc tmp).grownBy w8 vn.ownBlock) (hat:vn'.ownBlock=vn.ownBlock∨vn'.ownBlock=some (W.heap.size+1)):
 CpI w (NM++[p]) LM vn' vl (w8.setCell ⟨w.heap.size,0,none⟩ vn'):=by
 obtain ⟨blk,tabs,bl⟩:=h.keep (i:=0) (.inl rfl) hg hat (B0:=0)
 have hal:Below W.heap.size W (W.alloc tmp):=(bR _ W).alloc (nl _) tmp
 refine ⟨(blk (by omega) h.nt).set_ 0 vn',?_,?_,fun q hq=>?_,fun q hq=>?_,bl⟩
 ·rw [zL9,nc_one,List.length_append]
  exact zA6 hown (by omega)
 ·refine zA6 ((zC0 h.ol hal).kept hg ?_) (by omega)
  rcases zR2 h.ol h.on (by decide) with h1 |h1
  ·exact .inl h1
  ·exact .inr h1
 ·have key:TabIn W q.A q.x.T.length (kX q.x.T) (kY q.x.T)∧(q.x.T.length≠0→∀b off,q.A=some ⟨b,off,none⟩→w.heap.size+1≤b∧some b≠vn.ownBlock∧some b≠vl.ownBlock):=by
   rcases List.mem_append.1 hq with hq |hq
   ·exact h.tn q hq
   ·rw [List.mem_singleton.1 hq];exact ⟨hp,hpA⟩
  obtain ⟨t1,t2⟩:=tabs key.1 key.2
  exact ⟨t1,fun hn b off e=>⟨(key.2 hn b off e).1,t2 hn b off e,(key.2 hn b off e).2.2⟩⟩
 ·have key:=h.tl q hq
  obtain ⟨t1,t2⟩:=tabs key.1 key.2
  exact ⟨t1,fun hn b off e=>⟨(key.2 hn b off e).1,t2 hn b off e,(key.2 hn b off e).2.2⟩⟩
theorem CpI.linkApp {w W w8:World} {NM:List Ndm} {LM:List Lkm} {vn vl vl':Value} {p:Lkm} {tmp:Obj} (h:CpI w NM LM vn vl W) (hp:TabIn W p.A p.x.T.length (kX p.x.T) (kY p.x.T)) (hpA:p.x.T.length≠0→∀b off,p.A=some ⟨b,off,none⟩→w.heap.size+1≤b∧some b≠vn.ownBlock∧some b≠vl.ownBlock)
 (hown:w8.ownsRow (w.heap.size+1) 32 11 vl' (LM.length+1) (lc LM++lcm' p)) (hg:(W.alloc tmp).grownBy w8 vl.ownBlock) (hat:vl'.ownBlock=vl.ownBlock∨vl'.ownBlock=some (W.heap.size+1)):
 CpI w NM (LM++[p]) vn vl' (w8.setCell ⟨w.heap.size,1,none⟩ vl'):=by
 obtain ⟨blk,tabs,bl⟩:=h.keep (i:=1) (.inr rfl) hg hat (B0:=0)
 have hal:Below W.heap.size W (W.alloc tmp):=(bR _ W).alloc (nl _) tmp
 refine ⟨(blk (by omega) h.nt).set_ 1 vl',?_,?_,fun q hq=>?_,fun q hq=>?_,bl⟩
 ·refine zA6 ((zC0 h.on hal).kept hg ?_) (by omega)
  rcases zR2 h.on h.ol (by decide) with h1 |h1
  ·exact .inl h1
  ·exact .inr h1
 ·rw [zM1,lc_one,List.length_append]
  exact zA6 hown (by omega)
 ·have key:=h.tn q hq
  obtain ⟨t1,t2⟩:=tabs key.1 key.2
  exact ⟨t1,fun hn b off e=>⟨(key.2 hn b off e).1,(key.2 hn b off e).2.1,t2 hn b off e⟩⟩
 ·have key:TabIn W q.A q.x.T.length (kX q.x.T) (kY q.x.T)∧(q.x.T.length≠0→∀b off,q.A=some ⟨b,off,none⟩→w.heap.size+1≤b∧some b≠vn.ownBlock∧some b≠vl.ownBlock):=by
   rcases List.mem_append.1 hq with hq |hq
   ·exact h.tl q hq
   ·rw [List.mem_singleton.1 hq];exact ⟨hp,hpA⟩
  obtain ⟨t1,t2⟩:=tabs key.1 key.2
  exact ⟨t1,fun hn b off e=>⟨(key.2 hn b off e).1,(key.2 hn b off e).2.1,t2 hn b off e⟩⟩
structure CpR (B:Nat) (NM:List Ndm) (LM:List Lkm) (vn vl:Value) (W:World):Prop where
 on:W.ownsRow B 30 9 vn NM.length (nc NM)
 ol:W.ownsRow B 32 11 vl LM.length (lc LM)
 tn:TabsN B W vn.ownBlock vl.ownBlock NM
 tl:TabsL B W vn.ownBlock vl.ownBlock LM
theorem CpI.rows {w W:World} {NM:List Ndm} {LM:List Lkm} {vn vl:Value} (h:CpI w NM LM vn vl W):CpR (w.heap.size+1) NM LM vn vl W:=⟨h.on,h.ol,h.tn,h.tl⟩
theorem CpR.low {B g:Nat} {W:World} {NM:List Ndm} {LM:List Lkm} {vn vl:Value} (h:CpR B NM LM vn vl W) (hg:g<B) (i:Nat) (v:Value):CpR B NM LM vn vl (W.setCell ⟨g,i,none⟩ v):=by
 have hs:=zG1 W g i v
 exact ⟨zA6 h.on hg,zA6 h.ol hg,fun q hq=>⟨(h.tn q hq).1.grown hs (fun hn b off e e2=>by have:=((h.tn q hq).2 hn b off e).1;have:=Option.some.inj e2;omega),(h.tn q hq).2⟩,fun q hq=>⟨(h.tl q hq).1.grown hs (fun hn b off e e2=>by have:=((h.tl q hq).2 hn b off e).1;have:=Option.some.inj e2;omega),(h.tl q hq).2⟩⟩
theorem own_cap {w:World} {B n c s:Nat} {e:TypeId} {A:Option Addr} {N:Nat} {xs:List Value} (h:w.ownsRow B e s (.slice A n c) N xs):n≤c:=by
 rcases h.2 with ⟨hv,_⟩|⟨g,cap,cur,hv,_,_,hnc,_⟩
 ·cases hv;exact nl _
 ·cases hv;exact hnc
theorem own_n {w:World} {B n c s:Nat} {e:TypeId} {A:Option Addr} {N:Nat} {xs:List Value} (h:w.ownsRow B e s (.slice A n c) N xs):n=N:=by
 rcases h.2 with ⟨hv,h0⟩|⟨g,cap,cur,hv,_⟩
 ·cases hv;exact h0.symm
 ·cases hv;rfl
theorem CpR.lower {B B':Nat} {W:World} {NM:List Ndm} {LM:List Lkm} {vn vl:Value} (h:CpR B NM LM vn vl W) (hB:B'≤B):CpR B' NM LM vn vl W:=
 ⟨zB7 h.on hB,zB7 h.ol hB,fun q hq=>⟨(h.tn q hq).1,fun hn b off e=>⟨nT hB ((h.tn q hq).2 hn b off e).1,((h.tn q hq).2 hn b off e).2⟩⟩,fun q hq=>⟨(h.tl q hq).1,fun hn b off e=>⟨nT hB ((h.tl q hq).2 hn b off e).1,((h.tl q hq).2 hn b off e).2⟩⟩⟩
theorem CpR.call {B:Nat} {W W':World} {NM:List Ndm} {LM:List Lkm} {vn vl:Value} (h:CpR B NM LM vn vl W) (hb:Below W.heap.size W W'):CpR B NM LM vn vl W':=
 ⟨zC0 h.on hb,zC0 h.ol hb,fun p hp=>⟨(h.tn p hp).1.below (nl _) hb,(h.tn p hp).2⟩,fun p hp=>⟨(h.tl p hp).1.below (nl _) hb,(h.tl p hp).2⟩⟩
def CpPost (N:List Ndr) (L:List Lkr) (w:World) (u:Value) (w':World):Prop:=∃(NM:List Ndm) (LM:List Lkm) (A B:Option Addr) (c d:Nat),ndx NM=N∧lkx LM=L∧u= .agg #[.slice A N.length c,.slice B L.length d]∧CpR w.heap.size NM LM (.slice A N.length c) (.slice B L.length d) w'∧Below w.heap.size w w'
theorem CpR.cp {w W:World} {B0:Nat} {NM:List Ndm} {LM:List Lkm} {A B:Option Addr} {n m c d:Nat} (h:CpR B0 NM LM (.slice A n c) (.slice B m d) W) (hB:w.heap.size≤B0) (hb:Below w.heap.size w W):CpPost (ndx NM) (lkx LM) w (.agg #[.slice A n c,.slice B m d]) W:=by
 have e1:=own_n h.on
 have e2:=own_n h.ol
 have l1:(ndx NM).length=n:=by simp [ndx,e1]
 have l2:(lkx LM).length=m:=by simp [lkx,e2]
 exact ⟨NM,LM,A,B,c,d,rfl,rfl,by rw [l1,l2],by rw [l1,l2];exact h.lower hB,hb⟩
theorem CpPost.read {N:List Ndr} {L:List Lkr} {w w':World} {u:Value} (h:CpPost N L w u w') (hN:N.length≤2000) (hL:L.length≤2000):∃(NM:List Ndm) (LM:List Lkm) (A B:Option Addr) (c d:Nat),ndx NM=N∧lkx LM=L∧u= .agg #[.slice A N.length c,.slice B L.length d]∧NdIn w' A N.length (ndsM NM)∧LkIn w' B L.length (lksM LM)∧Below w.heap.size w w':=by
 obtain ⟨NM,LM,A,B,c,d,e1,e2,e3,hr,hb⟩:=h
 have l1:NM.length=N.length:=by rw [←e1];simp [ndx]
 have l2:LM.length=L.length:=by rw [←e2];simp [lkx]
 refine ⟨NM,LM,A,B,c,d,e1,e2,e3,?_,?_,hb⟩
 ·rw [←l1];exact (zI5 hr.on hr.tn (by omega)).2
 ·rw [←l2];exact (zG6 hr.ol hr.tl (by omega)).2
open Go.RowKit Go.Sort
theorem WayPost.shape {D:Nds} {n m:Nat} {X Y:Nat→Int} {i:Int} {w1 w':World} {e:Ending} (h:WayPost D n X Y m i w1 e w'):∃(A:Option Addr) (N c:Nat) (z:Int),e= .returned (.tuple #[.slice A N c,.int .i64 z]):=by
 rcases h with ⟨a,b,c⟩|⟨a,u,b,c⟩
 ·exact ⟨none,0,0,9,b⟩
 ·obtain ⟨A,cc,rfl⟩:=zI9 c.1
  exact ⟨A,_,cc,0,b⟩
theorem TabIn.congr {w:World} {A:Option Addr} {n:Nat} {F G F' G':Nat→Int} (h:TabIn w A n F G) (h1:∀i,i<n→F i=F' i∧G i=G' i):TabIn w A n F' G':=by
 refine ⟨h.1,?_⟩
 rcases h.2 with h0 |⟨b,off,hb,h2,h3⟩
 ·exact .inl h0
 ·exact .inr ⟨b,off,hb,h2,fun k hk=>by rw [←(h1 k hk).1,←(h1 k hk).2];exact h3 k hk⟩
theorem zB0 (w:World) (o:Obj):(w.alloc o).heap.size=w.heap.size+1:=by simp
theorem zN8 {n:Nat} (h:n≤2000):n+1≤maxLen:=by simp only [maxLen];omega
theorem hby_nd {n:Nat} (h:n≤2000):(n+1)*96≤140737488355328:=by omega
theorem hby_lk {n:Nat} (h:n≤2000):(n+1)*136≤140737488355328:=by omega
def ndC (D:Nds) (k:Nat) (A:Option Addr) (c:Nat):Ndm:=⟨zA7 D k,A,c⟩
def lkC (K:Lks) (k:Nat) (A:Option Addr) (c:Nat):Lkm:=⟨zA5 K k,A,c⟩
theorem zH0 (D:Nds) (k:Nat) (A:Option Addr) (c:Nat):ncm (ndC D k A c)=[.string (D.Nm k),.int .i64 (D.Kd k),.int .i64 (D.Ax k),.int .i64 (D.Ay k),.int .i64 (D.Iv k),.int .i64 (D.Gd k),.slice A (D.SN k) c,.bool (D.Pt k),.int .i64 (D.Rs k)]:=by
 unfold ncm ncs ndC zA7
 simp only [zD6]
theorem zH1 (K:Lks) (k:Nat) (A:Option Addr) (c:Nat):lcm' (lkC K k A c)=[.string (K.Nm k),.string (K.Fr k),.string (K.To k),.int .i64 (K.Kd k),.int .i64 (K.Ln k),.int .i64 (K.Up k),.int .i64 (K.Dn k),.string (K.Sc k),.int .i64 (K.Wd k),.int .i64 (K.Ht k),.slice A (K.CN k) c]:=by
 unfold lcm' lcs lkC zA5
 simp only [zD6]
theorem zC2 {w:World} {A:Option Addr} {n:Nat} {X Y:Nat→Int} (h:TabIn w A n X Y):TabIn w A (edl n X Y).length (kX (edl n X Y)) (kY (edl n X Y)):=by
 rw [zD6]
 exact h.eqv fun i hi=>⟨(zV3 hi).1.symm,(zV3 hi).2.symm⟩
theorem set6 (W:World) (G:Nat) {a b c d e f g h i v:Value} (hb:Blk W G 30 #[a,b,c,d,e,f,g,h,i]):Blk (W.setCell ⟨G,6,none⟩ v) G 30 #[a,b,c,d,e,f,v,h,i]:=hb.set_ 6 v
theorem set10 (W:World) (G:Nat) {a b c d e f g h i j k v:Value} (hb:Blk W G 32 #[a,b,c,d,e,f,g,h,i,j,k]):Blk (W.setCell ⟨G,10,none⟩ v) G 32 #[a,b,c,d,e,f,g,h,i,j,v]:=hb.set_ 10 v
set_option maxRecDepth 100000 in
set_option maxHeartbeats 32000000 in
theorem zO3 (NA LA:Option Addr) (n nc0 m lc0:Nat) (D:Nds) (K:Lks) (w:World) (hn:n≤2000) (hm:m≤2000) (hsn:∀k,k<n→D.SN k≤2000) (hcn:∀k,k<m→K.CN k≤2000) (hD:NdIn w NA n D) (hK:LkIn w LA m K):
 Calls Tryz.prog 35 #[.agg #[.slice NA n nc0,.slice LA m lc0]] w fun e w'=>∃u,e= .returned u∧CpPost (recN D n) (recL K m) w u w':=by
 obtain ⟨i0,hi0,hz0,hz1,hz2⟩:=zB2 infoNd9
 have HI0:=LH hi0
 have HZ0:=LH hz0
 have HZ1:=LH hz1
 have HZ2:=LH hz2
 obtain ⟨j0,hj0,hy0,hy1,hy2⟩:=zB2 zS7
 have HJ0:=LH hj0
 have HY0:=LH hy0
 have HY1:=LH hy1
 have HY2:=LH hy2
 have hal:Below w.heap.size w ((w.alloc (Obj.cells #[.slice NA n nc0,.slice LA m lc0] 52)).alloc (Obj.cells #[.slice none 0 0,.slice none 0 0] 52)):=((bR _ w).alloc (nl _) _).alloc (by simp) _
 have HX1:Hid (Blk ((w.alloc (Obj.cells #[.slice NA n nc0,.slice LA m lc0] 52)).alloc (Obj.cells #[.slice none 0 0,.slice none 0 0] 52)) w.heap.size 52 #[.slice NA n nc0,.slice LA m lc0]):=(Blk.new _ _ _).alloc _
 have HX2:Hid (Blk ((w.alloc (Obj.cells #[.slice NA n nc0,.slice LA m lc0] 52)).alloc (Obj.cells #[.slice none 0 0,.slice none 0 0] 52)) (w.heap.size+1) 52 #[.slice none 0 0,.slice none 0 0]):=by have h:=Blk.new (w.alloc (Obj.cells #[.slice NA n nc0,.slice LA m lc0] 52)) 52 #[.slice none 0 0,.slice none 0 0];simp at h;exact h
 have HAL0:=LH hal
 have HD:=LH hD
 have HK:=LH hK
 have HNM:Hid (n≤2000∧m≤2000):=⟨hn,hm⟩
 have HSN:=LH hsn
 have HCN:=LH hcn
 clear hi0 hz0 hz1 hz2 hj0 hy0 hy1 hy2 hal hD hK hn hm hsn hcn
 go_enter Tryz.func35,Tryz.ntmps35
 go_upto_region 1 with fail
 generalize (w.alloc (Obj.cells #[.slice NA n nc0,.slice LA m lc0] 52)).alloc (Obj.cells #[.slice none 0 0,.slice none 0 0] 52)=w2 at HX1 HX2 HAL0⊢
 have HN2:=HX1
 have HR2:=HX2
 have HB2:=HAL0
 have HD2:=LH (HD.out.below (nl _) HB2.out)
 have HK2':=LH (HK.out.below (nl _) HB2.out)
 clear HX1 HX2 HAL0
 go_upto_region 2 with fail
 have HI:Hid (CpI w2 [] [] (.slice none 0 0) (.slice none 0 0) (w2.alloc (Obj.cells #[.slice none 0 0,.slice none 0 0] 52))):=CpI.start w2
 generalize w2.alloc (Obj.cells #[.slice none 0 0,.slice none 0 0] 52)=w3 at HI⊢
 go_wp2_with fail
 obtain ⟨wz,hwz⟩:∃wz:World,wz=w3:=⟨_,rfl⟩
 go_loopw [4] (fun x wr=>∃(k:Nat) (NM:List Ndm) (vn:Value),x= .int .i64 k∧Hid (k≤n)∧Hid (ndx NM=recN D k)∧Hid (CpI w2 NM [] vn (.slice none 0 0) wr)) (fun x _=>n - (RowKit.intOf x).toNat)
 case atStart=>exact ⟨0,[],_,rfl,Nat.zero_le _,rfl,HI.out⟩
 case round=>
  clear HI hwz
  obtain ⟨k,NM,vn,rfl,Hk,HE,HI⟩:=hrel
  obtain ⟨y0,y1⟩:=blk2 (HN2.out.call HI.out.bl)
  by_cases hlt:k<n
  ·have T0:decide ((k:Int)<(n:Int))=true:=by simp<;> omega
   have T0':decide (k<n)=true:=dU hlt
   obtain ⟨k',hk'⟩:∃z,z=k+1:=⟨_,rfl⟩
   have x0:IntKind.i64.wrap ((k:Int)+1)=(k':Int):=by have:=HNM.out;rw [IntKind.wrap_i64];omega
   have HK':Hid (k'≤n∧k'=k+1):=⟨by omega,hk'⟩
   have HMS:Hid (n - (RowKit.intOf (Value.int .i64 (k':Int))).toNat<n - (RowKit.intOf (Value.int .i64 (k:Int))).toNat):=by show _<_;simp [RowKit.intOf];omega
   have k0:(0:Int)≤(k:Int):=by omega
   have k1:(k:Int)<(n:Int):=by omega
   have HK2:Hid (k≤2000):=by show _≤_;have:=HNM.out;omega
   have HS2:Hid (D.SN k≤2000):=HSN.out k hlt
   have hNk:NM.length=k:=by have:=congrArg List.length HE.out;rw [zA3] at this;simpa [ndx] using this
   obtain ⟨A0,cap0,h8⟩:=zI9 HI.out.on
   subst h8
   rw [hNk] at HI
   have HNk:=LH hNk
   obtain ⟨bn,on,hNA,hbn,hC,htab⟩:=(HD2.out.below (nl _) HI.out.bl).at hlt
   subst hNA
   have HTB:=LH htab
   have c0:=hC 0 _ rfl
   have c1:=hC 1 _ rfl
   have c2:=hC 2 _ rfl
   have c3:=hC 3 _ rfl
   have c4:=hC 4 _ rfl
   have c5:=hC 5 _ rfl
   have c6:=hC 6 _ rfl
   have c7:=hC 7 _ rfl
   have c8:=hC 8 _ rfl
   simp only [Nat.add_zero] at c0
   clear hk' hlt hC htab hbn hNk
   go_upto_region 6 with fail
   have hal:Below wr.heap.size wr (wr.alloc (Obj.cells (ndA D k) 30)):=(bR _ wr).alloc (nl _) _
   have HBX:Hid (Blk (wr.alloc (Obj.cells (ndA D k) 30)) wr.heap.size 30 (ndA D k)):=Blk.new _ _ _
   have HT4:=LH (HTB.out.below (nl _) hal)
   have HAL:=LH hal
   have HI4:=LH (HI.out.call hal)
   clear hal HTB
   unfold ndA at HBX HT4 HAL HI4
   generalize wr.alloc (Obj.cells _ 30)=w4 at HBX HT4 HAL HI4⊢
   obtain ⟨b0,b1,b2,b3,b4,b5,b6,b7,b8⟩:=blk9 HBX.out
   clear y0 y1 c0 c1 c2 c3 c4 c5 c6 c7 c8
   by_cases hS0:(D.SN k)=0
   case pos=>
        have HS0:=LH hS0
        have HO0:Hid ((w4.alloc (.cells #[] 141)).ownsRow w4.heap.size 141 2 (.slice (some ⟨w4.heap.size,0,none⟩) 0 0) 0 []):=World.ownsRow_lit w4 #[] 0 (nl _) (by unfold maxLen;omega) rfl
        have HQ:Hid (∀(cs:List Value),True):=fun _=>trivial
        have HBE:Hid (Blk (w4.alloc (.cells #[] 141)) wr.heap.size 30 #[.string (D.Nm k),.int .i64 (D.Kd k),.int .i64 (D.Ax k),.int .i64 (D.Ay k),.int .i64 (D.Iv k),.int .i64 (D.Gd k),.slice (D.SA k) (D.SN k) (D.SC k),.bool (D.Pt k),.int .i64 (D.Rs k)]):=HBX.out.alloc _
        have hRun:∀ty,(Builtin.append_ #[28,28] ty #[.slice (some ⟨w4.heap.size,0,none⟩) 0 0,.slice (D.SA k) (D.SN k) (D.SC k)]).run Tryz.prog (w4.alloc (.cells #[] 141))= .ok (.slice (some ⟨w4.heap.size,0,none⟩) 0 0) (w4.alloc (.cells #[] 141)):=fun ty=>by
         rw [hS0]
         exact zU5 HO0.out _ _ _
        have HRun:=LH hRun
        have f6:=HBE.out.frozen 6
        obtain ⟨e0,e1,e2,e3,e4,e5,e6,e7,e8⟩:=blk9 HBE.out
        clear hRun hS0
        go_upto_region 7 with (at_builtin;refine Lib.wpList_append_run _ rfl _ _ _ _ rfl _ _ rfl rfl _ _ (HRun.out _) ?_)
        have HL5:Hid (Below wr.heap.size wr ((w4.alloc (.cells #[] 141)).setCell ⟨wr.heap.size,6,none⟩ (.slice (some ⟨w4.heap.size,0,none⟩) 0 0))):=(HAL.out.alloc HAL.out.size _).setCell (p:=⟨wr.heap.size,6,none⟩) (nl _) _
        have HBX5:Hid (Blk ((w4.alloc (.cells #[] 141)).setCell ⟨wr.heap.size,6,none⟩ (.slice (some ⟨w4.heap.size,0,none⟩) 0 0)) wr.heap.size 30 #[.string (D.Nm k),.int .i64 (D.Kd k),.int .i64 (D.Ax k),.int .i64 (D.Ay k),.int .i64 (D.Iv k),.int .i64 (D.Gd k),.slice (some ⟨w4.heap.size,0,none⟩) (D.SN k) 0,.bool (D.Pt k),.int .i64 (D.Rs k)]):=by rw [HS0.out];exact set6 _ wr.heap.size HBE.out
        generalize (w4.alloc (.cells #[] 141)).setCell ⟨wr.heap.size,6,none⟩ (.slice (some ⟨w4.heap.size,0,none⟩) 0 0)=w5 at HL5 HBX5⊢
        rw [HS0.out] at HBX5
        clear f6 e0 e1 e2 e3 e4 e5 e6 e7 e8 b0 b1 b2 b3 b4 b5 b6 b7 b8
        obtain ⟨b0,b1,b2,b3,b4,b5,b6,b7,b8⟩:=blk9 HBX5.out
        have f6:=HBX5.out.frozen 6
        go_upto_region 9 with fail
        have HBX6:Hid (Blk (w5.setCell ⟨wr.heap.size,6,none⟩ (.slice none 0 0)) wr.heap.size 30 #[.string (D.Nm k),.int .i64 (D.Kd k),.int .i64 (D.Ax k),.int .i64 (D.Ay k),.int .i64 (D.Iv k),.int .i64 (D.Gd k),.slice none (D.SN k) 0,.bool (D.Pt k),.int .i64 (D.Rs k)]):=by rw [HS0.out];exact set6 _ wr.heap.size HBX5.out
        have HL6:Hid (Below wr.heap.size wr (w5.setCell ⟨wr.heap.size,6,none⟩ (.slice none 0 0))):=HL5.out.setCell (p:=⟨wr.heap.size,6,none⟩) (nl _) _
        have HI6:=LH (HI.out.call HL6.out)
        have HT6:Hid (TabIn (w5.setCell ⟨wr.heap.size,6,none⟩ (.slice none 0 0)) none (D.SN k) (D.SX k) (D.SY k)):=⟨by have:=HS2.out;omega,.inl HS0.out⟩
        have HA6:Hid (∀b off,(edl (D.SN k) (D.SX k) (D.SY k)).length≠0→(none:Option Addr)=some ⟨b,off,none⟩→wr.heap.size<b):=fun b off hn e=>by cases e
        generalize w5.setCell ⟨wr.heap.size,6,none⟩ (.slice none 0 0)=w6 at HBX6 HL6 HI6 HT6⊢
        clear f6
        obtain ⟨A5,hA5⟩:∃A:Option Addr,A=none:=⟨_,rfl⟩
        obtain ⟨c5,hc5⟩:∃c:Nat,c=0:=⟨_,rfl⟩
        rw [←hA5] at HT6 HA6
        have HBX6':Hid (Blk w6 wr.heap.size 30 #[.string (D.Nm k),.int .i64 (D.Kd k),.int .i64 (D.Ax k),.int .i64 (D.Ay k),.int .i64 (D.Iv k),.int .i64 (D.Gd k),.slice A5 (D.SN k) c5,.bool (D.Pt k),.int .i64 (D.Rs k)]):=by rw [hA5,hc5];exact HBX6.out
        clear HBX6 hA5 hc5
        have HBX6:=HBX6'
        clear HBX6'
        clear b0 b1 b2 b3 b4 b5 b6 b7 b8
        obtain ⟨b0,b1,b2,b3,b4,b5,b6,b7,b8⟩:=blk9 HBX6.out
        obtain ⟨o0,o1⟩:=blk2 HI6.out.nt
        have HSZ:Hid (w2.heap.size+1≤w6.heap.size):=HI6.out.size
        go_wp2_with (first
         |(at_builtin;refine wpList_append_own_at _ ?q1x_1 (.tmp 31) (.tmp 33) 49 ?q1x_2 (w2.heap.size+1) 30 i0 (.agg #[.string ⟨#[]⟩,.int .i64 0,.int .i64 0,.int .i64 0,.int .i64 0,.int .i64 0,.slice none 0 0,.bool false,.int .i64 0]) 9 96 Tryz.underlying49 HI0.out HZ0.out HZ1.out HZ2.out ?q1x_3 ?q1x_4 (.slice A0 k cap0) k (nc NM) ?q1x_5 ((by have h:=HI6.out.on;rw [HNk.out] at h;exact h.alloc _)) ⟨w6.heap.size,0,none⟩ 1 1 [.string (D.Nm k),.int .i64 (D.Kd k),.int .i64 (D.Ax k),.int .i64 (D.Ay k),.int .i64 (D.Iv k),.int .i64 (D.Gd k),.slice A5 (D.SN k) c5,.bool (D.Pt k),.int .i64 (D.Rs k)] ?q1x_7 (rfl) (World.news_of_block (cs:=#[.string (D.Nm k),.int .i64 (D.Kd k),.int .i64 (D.Ax k),.int .i64 (D.Ay k),.int .i64 (D.Iv k),.int .i64 (D.Gd k),.slice A5 (D.SN k) c5,.bool (D.Pt k),.int .i64 (D.Rs k)]) (t:=30) (fr:=(0,0)) (heap_alloc_new _ _)) (by simp [Value.oneCell']) (zN8 HK2.out) (hby_nd HK2.out) (zC6 HSZ.out _) ?q1x_14
           case q1x_1=>exact rfl
           case q1x_2=>exact rfl
           case q1x_3=>exact rfl
           case q1x_4=>decide
           case q1x_5=>exact rfl
           case q1x_7=>exact rfl
           intro u2 w7 hown2 hgrow2 hnil2 hat2
           obtain ⟨g2,cap2,rfl,hb2,hl2⟩:=hown2.form (by omega)
           have HO7:=LH hown2
           have HG7:=LH hgrow2
           have HAT7:=LH hat2
           have HN7:Hid (Blk w7 w2.heap.size 52 #[.slice A0 k cap0,.slice none 0 0]):=(HI6.out.nt.alloc _).grown hgrow2 (fun e=>by have h:=(HI6.out.on.lt _ e.symm).1;omega)
           obtain ⟨o0,o1⟩:=blk2 HN7.out
           have f7:=HN7.out.frozen 0
           clear hown2 hgrow2 hnil2 hat2 hb2 hl2))
        go_roundw
        case measure=>exact HMS.out
        case rel=>
         refine ⟨k',NM++[ndC D k A5 c5],.slice (some ⟨g2,0,none⟩) (k+1) cap2,rfl,HK'.out.1,?_,?_⟩
         ·show ndx (NM++[ndC D k A5 c5])=recN D k'
          rw [HK'.out.2,recN_succ,←HE.out]
          simp [ndx,ndC]
         ·refine HI6.out.nodeApp (p:=ndC D k A5 c5) (zC2 HT6.out) (fun hn b off e=>?_) (by rw [HNk.out,zH0];exact HO7.out) HG7.out (by have h:=HAT7.out;rw [zB0] at h;exact h)
          have h1:=HA6.out b off hn e
          refine ⟨by have:=HI.out.size;omega,fun e2=>?_,fun e2=>?_⟩
          ·have:=(HI.out.on.lt b e2.symm).2;omega
          ·have:=(HI.out.ol.lt b e2.symm).2;omega
   case neg=>
        have hS1:0<(D.SN k):=by omega
        have HS1:=LH hS1
        have t1:(((D.SN k):Int)==0)=false:=by rw [beq_eq_false_iff_ne];omega
        have t2:((D.SN k)==0)=false:=by rw [beq_eq_false_iff_ne];omega
        have t3:¬((D.SN k):Int)=0:=by omega
        have t4:¬(D.SN k)=0:=hS0
        have t5:decide (((D.SN k):Int)=0)=false:=dF t3
        have HO0:Hid ((w4.alloc (.cells #[] 141)).ownsRow w4.heap.size 141 2 (.slice (some ⟨w4.heap.size,0,none⟩) 0 0) 0 []):=World.ownsRow_lit w4 #[] 0 (nl _) (by unfold maxLen;omega) rfl
        have HA4:Hid (Below w4.heap.size w4 (w4.alloc (.cells #[] 141))):=(bR _ w4).alloc (nl _) _
        obtain ⟨ab,aoff,hAb,hTA⟩:∃b off,(D.SA k)=some ⟨b,off,none⟩∧TabAt (w4.alloc (.cells #[] 141)) b off (D.SN k) (D.SX k) (D.SY k):=by
         rcases (HT4.out.below (nl _) HA4.out).2 with h0 |⟨b,off,e,h⟩
         ·exact absurd h0 hS0
         ·exact ⟨b,off,e,h⟩
        have HTA:=LH hTA
        obtain ⟨SI0,si0,sz0,sz1,sz2⟩:=zB2 info39
        have SI1:=LH si0
        have SI2:=LH sz0
        have SI3:=LH sz1
        have SI4:=LH sz2
        rw [hAb] at HBX
        have HBE:Hid (Blk (w4.alloc (.cells #[] 141)) wr.heap.size 30 #[.string (D.Nm k),.int .i64 (D.Kd k),.int .i64 (D.Ax k),.int .i64 (D.Ay k),.int .i64 (D.Iv k),.int .i64 (D.Gd k),.slice (some ⟨ab,aoff,none⟩) (D.SN k) (D.SC k),.bool (D.Pt k),.int .i64 (D.Rs k)]):=HBX.out.alloc _
        obtain ⟨e0,e1,e2,e3,e4,e5,e6,e7,e8⟩:=blk9 HBE.out
        rw [hAb] at b6
        clear si0 sz0 sz1 sz2 hTA hS0 hS1
        go_upto_region 7 with (first
         |(at_builtin;refine wpList_append_own_at _ ?sa_1 (.tmp 20) (.tmp 22) 28 ?sa_2 (w4.heap.size) 141 SI0 (.agg #[.int .i64 0,.int .i64 0]) 2 16 Tryz.underlying28 SI1.out SI2.out SI3.out SI4.out ?sa_3 ?sa_4 (.slice (some ⟨w4.heap.size,0,none⟩) 0 0) (0) ([]) ?sa_5 (HO0.out) (⟨ab,aoff,none⟩) ((D.SN k)) ((D.SC k)) (kc (edl (D.SN k) (D.SX k) (D.SY k))) ?sa_7 (by rw [kc_len,zD6]) (knews HTA.out) (kc_one_ _) (h63_k (Nat.zero_le _) HS2.out) (hby_k (Nat.zero_le _) HS2.out) (HA4.out.size) ?sa_14
           case sa_1=>exact rfl
           case sa_2=>exact rfl
           case sa_3=>exact rfl
           case sa_4=>decide
           case sa_5=>exact rfl
           case sa_7=>exact rfl
           intro v2 w5 hown2 hgrow2 hnil2 hat2
           obtain ⟨g5,c5,rfl,hb2,hl2⟩:=hown2.form (by have:=HS1.out;omega)
           rw [Nat.zero_add,List.nil_append] at hown2
           rw [Nat.zero_add]
           have HR5:=LH hown2
           have HB5:Hid (Below w4.heap.size w4 w5):=zK0 HO0.out HA4.out hgrow2
           have HBX5:Hid (Blk w5 wr.heap.size 30 #[.string (D.Nm k),.int .i64 (D.Kd k),.int .i64 (D.Ax k),.int .i64 (D.Ay k),.int .i64 (D.Iv k),.int .i64 (D.Gd k),.slice (some ⟨ab,aoff,none⟩) (D.SN k) (D.SC k),.bool (D.Pt k),.int .i64 (D.Rs k)]):=HBX.out.call HB5.out
           obtain ⟨b0,b1,b2,b3,b4,b5,b6,b7,b8⟩:=blk9 HBX5.out
           have f6:=HBX5.out.frozen 6
           clear hown2 hgrow2 hnil2 hat2 hb2 hl2))
        have HG4:Hid (wr.heap.size<w4.heap.size):=HBX.out.lt
        have HL6:Hid (Below wr.heap.size wr (w5.setCell ⟨wr.heap.size,6,none⟩ (.slice (some ⟨g5,0,none⟩) (D.SN k) c5))):=(HAL.out.trans (HB5.out.mono HAL.out.size)).setCell (p:=⟨wr.heap.size,6,none⟩) (nl _) _
        have HBX6:Hid (Blk (w5.setCell ⟨wr.heap.size,6,none⟩ (.slice (some ⟨g5,0,none⟩) (D.SN k) c5)) wr.heap.size 30 #[.string (D.Nm k),.int .i64 (D.Kd k),.int .i64 (D.Ax k),.int .i64 (D.Ay k),.int .i64 (D.Iv k),.int .i64 (D.Gd k),.slice (some ⟨g5,0,none⟩) (D.SN k) c5,.bool (D.Pt k),.int .i64 (D.Rs k)]):=set6 w5 wr.heap.size HBX5.out
        have HI6:=LH (HI.out.call HL6.out)
        have HG5:Hid (w4.heap.size≤g5):=(HR5.out.lt g5 rfl).1
        have HT6:Hid (TabIn (w5.setCell ⟨wr.heap.size,6,none⟩ (.slice (some ⟨g5,0,none⟩) (D.SN k) c5)) (some ⟨g5,0,none⟩) (D.SN k) (D.SX k) (D.SY k)):=(kown_tab HR5.out HS2.out).grown (zG1 w5 wr.heap.size 6 _) (fun hn b off e e2=>by cases e;have:=Option.some.inj e2;have:=HG4.out;have:=HG5.out;omega)
        have HA6:Hid (∀b off,(edl (D.SN k) (D.SX k) (D.SY k)).length≠0→(some ⟨g5,0,none⟩:Option Addr)=some ⟨b,off,none⟩→wr.heap.size<b):=fun b off hn e=>by cases e;have:=HG4.out;have:=HG5.out;omega
        generalize w5.setCell ⟨wr.heap.size,6,none⟩ (.slice (some ⟨g5,0,none⟩) (D.SN k) c5)=w6 at HBX6 HL6 HI6 HT6⊢
        generalize (some ⟨g5,0,none⟩:Option Addr)=A5 at HBX6 HT6 HA6⊢
        clear f6 b0 b1 b2 b3 b4 b5 b6 b7 b8 e0 e1 e2 e3 e4 e5 e6 e7 e8 HBX5 HB5 HBX HBE HT4 HTA HO0 HA4 HR5 HG5
        obtain ⟨b0,b1,b2,b3,b4,b5,b6,b7,b8⟩:=blk9 HBX6.out
        go_upto_region 9 with fail
        clear t1 t2 t3 t4 t5
        clear b0 b1 b2 b3 b4 b5 b6 b7 b8
        obtain ⟨b0,b1,b2,b3,b4,b5,b6,b7,b8⟩:=blk9 HBX6.out
        obtain ⟨o0,o1⟩:=blk2 HI6.out.nt
        have HSZ:Hid (w2.heap.size+1≤w6.heap.size):=HI6.out.size
        go_wp2_with (first
         |(at_builtin;refine wpList_append_own_at _ ?q1y_1 (.tmp 31) (.tmp 33) 49 ?q1y_2 (w2.heap.size+1) 30 i0 (.agg #[.string ⟨#[]⟩,.int .i64 0,.int .i64 0,.int .i64 0,.int .i64 0,.int .i64 0,.slice none 0 0,.bool false,.int .i64 0]) 9 96 Tryz.underlying49 HI0.out HZ0.out HZ1.out HZ2.out ?q1y_3 ?q1y_4 (.slice A0 k cap0) k (nc NM) ?q1y_5 ((by have h:=HI6.out.on;rw [HNk.out] at h;exact h.alloc _)) ⟨w6.heap.size,0,none⟩ 1 1 [.string (D.Nm k),.int .i64 (D.Kd k),.int .i64 (D.Ax k),.int .i64 (D.Ay k),.int .i64 (D.Iv k),.int .i64 (D.Gd k),.slice A5 (D.SN k) c5,.bool (D.Pt k),.int .i64 (D.Rs k)] ?q1y_7 (rfl) (World.news_of_block (cs:=#[.string (D.Nm k),.int .i64 (D.Kd k),.int .i64 (D.Ax k),.int .i64 (D.Ay k),.int .i64 (D.Iv k),.int .i64 (D.Gd k),.slice A5 (D.SN k) c5,.bool (D.Pt k),.int .i64 (D.Rs k)]) (t:=30) (fr:=(0,0)) (heap_alloc_new _ _)) (by simp [Value.oneCell']) (zN8 HK2.out) (hby_nd HK2.out) (zC6 HSZ.out _) ?q1y_14
           case q1y_1=>exact rfl
           case q1y_2=>exact rfl
           case q1y_3=>exact rfl
           case q1y_4=>decide
           case q1y_5=>exact rfl
           case q1y_7=>exact rfl
           intro u2 w7 hown2 hgrow2 hnil2 hat2
           obtain ⟨g2,cap2,rfl,hb2,hl2⟩:=hown2.form (by omega)
           have HO7:=LH hown2
           have HG7:=LH hgrow2
           have HAT7:=LH hat2
           have HN7:Hid (Blk w7 w2.heap.size 52 #[.slice A0 k cap0,.slice none 0 0]):=(HI6.out.nt.alloc _).grown hgrow2 (fun e=>by have h:=(HI6.out.on.lt _ e.symm).1;omega)
           obtain ⟨o0,o1⟩:=blk2 HN7.out
           have f7:=HN7.out.frozen 0
           clear hown2 hgrow2 hnil2 hat2 hb2 hl2))
        go_roundw
        case measure=>exact HMS.out
        case rel=>
         refine ⟨k',NM++[ndC D k A5 c5],.slice (some ⟨g2,0,none⟩) (k+1) cap2,rfl,HK'.out.1,?_,?_⟩
         ·show ndx (NM++[ndC D k A5 c5])=recN D k'
          rw [HK'.out.2,recN_succ,←HE.out]
          simp [ndx,ndC]
         ·refine HI6.out.nodeApp (p:=ndC D k A5 c5) (zC2 HT6.out) (fun hn b off e=>?_) (by rw [HNk.out,zH0];exact HO7.out) HG7.out (by have h:=HAT7.out;rw [zB0] at h;exact h)
          have h1:=HA6.out b off hn e
          refine ⟨by have:=HI.out.size;omega,fun e2=>?_,fun e2=>?_⟩
          ·have:=(HI.out.on.lt b e2.symm).2;omega
          ·have:=(HI.out.ol.lt b e2.symm).2;omega
  ·have e:k=n:=by have:=Hk.out;omega
   have T0:decide ((k:Int)<(n:Int))=false:=by simp<;> omega
   have T0':decide (k<n)=false:=dF hlt
   have HNE:Hid (ndx NM=recN D n):=by rw [←e];exact HE.out
   clear e hlt HE Hk
   go_wp2_with fail
   clear T0 T0' y0 y1
   obtain ⟨wz,hwz⟩:∃wz:World,wz=wr:=⟨_,rfl⟩
   go_loopw [6] (fun x wr=>∃(k:Nat) (LM:List Lkm) (vl:Value),x= .int .i64 k∧Hid (k≤m)∧Hid (lkx LM=recL K k)∧Hid (CpI w2 NM LM vn vl wr)) (fun x _=>m - (RowKit.intOf x).toNat)
   case atStart=>exact ⟨0,[],_,rfl,Nat.zero_le _,rfl,HI.out⟩
   case round=>
        clear HI hwz
        obtain ⟨k,LM,vl,rfl,Hk,HE,HI⟩:=hrel
        obtain ⟨y0,y1⟩:=blk2 (HN2.out.call HI.out.bl)
        by_cases hlt:k<m
        ·have T0:decide ((k:Int)<(m:Int))=true:=by simp<;> omega
         have T0':decide (k<m)=true:=dU hlt
         obtain ⟨k',hk'⟩:∃z,z=k+1:=⟨_,rfl⟩
         have x0:IntKind.i64.wrap ((k:Int)+1)=(k':Int):=by have:=HNM.out;rw [IntKind.wrap_i64];omega
         have HK':Hid (k'≤m∧k'=k+1):=⟨by omega,hk'⟩
         have HMS:Hid (m - (RowKit.intOf (Value.int .i64 (k':Int))).toNat<m - (RowKit.intOf (Value.int .i64 (k:Int))).toNat):=by show _<_;simp [RowKit.intOf];omega
         have k0:(0:Int)≤(k:Int):=by omega
         have k1:(k:Int)<(m:Int):=by omega
         have HK2:Hid (k≤2000):=by show _≤_;have:=HNM.out;omega
         have HS2:Hid (K.CN k≤2000):=HCN.out k hlt
         have hNk:LM.length=k:=by have:=congrArg List.length HE.out;rw [zA4] at this;simpa [lkx] using this
         obtain ⟨A0,cap0,h8⟩:=zI9 HI.out.ol
         subst h8
         rw [hNk] at HI
         have HNk:=LH hNk
         obtain ⟨bn,on,hNA,hbn,hC,htab⟩:=(HK2'.out.below (nl _) HI.out.bl).at hlt
         subst hNA
         have HTB:=LH htab
         have c0:=hC 0 _ rfl
         have c1:=hC 1 _ rfl
         have c2:=hC 2 _ rfl
         have c3:=hC 3 _ rfl
         have c4:=hC 4 _ rfl
         have c5:=hC 5 _ rfl
         have c6:=hC 6 _ rfl
         have c7:=hC 7 _ rfl
         have c8:=hC 8 _ rfl
         have c9:=hC 9 _ rfl
         have c10:=hC 10 _ rfl
         simp only [Nat.add_zero] at c0
         clear hk' hlt hC htab hbn hNk
         go_upto_region 14 with fail
         have hal:Below wr.heap.size wr (wr.alloc (Obj.cells (lkA K k) 32)):=(bR _ wr).alloc (nl _) _
         have HBX:Hid (Blk (wr.alloc (Obj.cells (lkA K k) 32)) wr.heap.size 32 (lkA K k)):=Blk.new _ _ _
         have HT4:=LH (HTB.out.below (nl _) hal)
         have HAL:=LH hal
         have HI4:=LH (HI.out.call hal)
         clear hal HTB
         unfold lkA at HBX HT4 HAL HI4
         generalize wr.alloc (Obj.cells _ 32)=w4 at HBX HT4 HAL HI4⊢
         obtain ⟨b0,b1,b2,b3,b4,b5,b6,b7,b8,b9,b10⟩:=zC5 HBX.out
         clear y0 y1 c0 c1 c2 c3 c4 c5 c6 c7 c8 c9 c10
         by_cases hS0:(K.CN k)=0
         case pos=>
          have HS0:=LH hS0
          have HO0:Hid ((w4.alloc (.cells #[] 141)).ownsRow w4.heap.size 141 2 (.slice (some ⟨w4.heap.size,0,none⟩) 0 0) 0 []):=World.ownsRow_lit w4 #[] 0 (nl _) (by unfold maxLen;omega) rfl
          have HQ:Hid (∀(cs:List Value),True):=fun _=>trivial
          have HBE:Hid (Blk (w4.alloc (.cells #[] 141)) wr.heap.size 32 #[.string (K.Nm k),.string (K.Fr k),.string (K.To k),.int .i64 (K.Kd k),.int .i64 (K.Ln k),.int .i64 (K.Up k),.int .i64 (K.Dn k),.string (K.Sc k),.int .i64 (K.Wd k),.int .i64 (K.Ht k),.slice (K.CA k) (K.CN k) (K.CC k)]):=HBX.out.alloc _
          have hRun:∀ty,(Builtin.append_ #[28,28] ty #[.slice (some ⟨w4.heap.size,0,none⟩) 0 0,.slice (K.CA k) (K.CN k) (K.CC k)]).run Tryz.prog (w4.alloc (.cells #[] 141))= .ok (.slice (some ⟨w4.heap.size,0,none⟩) 0 0) (w4.alloc (.cells #[] 141)):=fun ty=>by
              rw [hS0]
              exact zU5 HO0.out _ _ _
          have HRun:=LH hRun
          have f6:=HBE.out.frozen 10
          obtain ⟨e0,e1,e2,e3,e4,e5,e6,e7,e8,e9,e10⟩:=zC5 HBE.out
          clear hRun hS0
          go_upto_region 15 with (at_builtin;refine Lib.wpList_append_run _ rfl _ _ _ _ rfl _ _ rfl rfl _ _ (HRun.out _) ?_)
          have HL5:Hid (Below wr.heap.size wr ((w4.alloc (.cells #[] 141)).setCell ⟨wr.heap.size,10,none⟩ (.slice (some ⟨w4.heap.size,0,none⟩) 0 0))):=(HAL.out.alloc HAL.out.size _).setCell (p:=⟨wr.heap.size,10,none⟩) (nl _) _
          have HBX5:Hid (Blk ((w4.alloc (.cells #[] 141)).setCell ⟨wr.heap.size,10,none⟩ (.slice (some ⟨w4.heap.size,0,none⟩) 0 0)) wr.heap.size 32 #[.string (K.Nm k),.string (K.Fr k),.string (K.To k),.int .i64 (K.Kd k),.int .i64 (K.Ln k),.int .i64 (K.Up k),.int .i64 (K.Dn k),.string (K.Sc k),.int .i64 (K.Wd k),.int .i64 (K.Ht k),.slice (some ⟨w4.heap.size,0,none⟩) (K.CN k) 0]):=by rw [HS0.out];exact set10 _ wr.heap.size HBE.out
          generalize (w4.alloc (.cells #[] 141)).setCell ⟨wr.heap.size,10,none⟩ (.slice (some ⟨w4.heap.size,0,none⟩) 0 0)=w5 at HL5 HBX5⊢
          rw [HS0.out] at HBX5
          clear f6 e0 e1 e2 e3 e4 e5 e6 e7 e8 e9 e10 b0 b1 b2 b3 b4 b5 b6 b7 b8 b9 b10
          obtain ⟨b0,b1,b2,b3,b4,b5,b6,b7,b8,b9,b10⟩:=zC5 HBX5.out
          have f6:=HBX5.out.frozen 10
          go_upto_region 17 with fail
          have HBX6:Hid (Blk (w5.setCell ⟨wr.heap.size,10,none⟩ (.slice none 0 0)) wr.heap.size 32 #[.string (K.Nm k),.string (K.Fr k),.string (K.To k),.int .i64 (K.Kd k),.int .i64 (K.Ln k),.int .i64 (K.Up k),.int .i64 (K.Dn k),.string (K.Sc k),.int .i64 (K.Wd k),.int .i64 (K.Ht k),.slice none (K.CN k) 0]):=by rw [HS0.out];exact set10 _ wr.heap.size HBX5.out
          have HL6:Hid (Below wr.heap.size wr (w5.setCell ⟨wr.heap.size,10,none⟩ (.slice none 0 0))):=HL5.out.setCell (p:=⟨wr.heap.size,10,none⟩) (nl _) _
          have HI6:=LH (HI.out.call HL6.out)
          have HT6:Hid (TabIn (w5.setCell ⟨wr.heap.size,10,none⟩ (.slice none 0 0)) none (K.CN k) (K.CX k) (K.CY k)):=⟨by have:=HS2.out;omega,.inl HS0.out⟩
          have HA6:Hid (∀b off,(edl (K.CN k) (K.CX k) (K.CY k)).length≠0→(none:Option Addr)=some ⟨b,off,none⟩→wr.heap.size<b):=fun b off hn e=>by cases e
          generalize w5.setCell ⟨wr.heap.size,10,none⟩ (.slice none 0 0)=w6 at HBX6 HL6 HI6 HT6⊢
          clear f6
          obtain ⟨A5,hA5⟩:∃A:Option Addr,A=none:=⟨_,rfl⟩
          obtain ⟨c5,hc5⟩:∃c:Nat,c=0:=⟨_,rfl⟩
          rw [←hA5] at HT6 HA6
          have HBX6':Hid (Blk w6 wr.heap.size 32 #[.string (K.Nm k),.string (K.Fr k),.string (K.To k),.int .i64 (K.Kd k),.int .i64 (K.Ln k),.int .i64 (K.Up k),.int .i64 (K.Dn k),.string (K.Sc k),.int .i64 (K.Wd k),.int .i64 (K.Ht k),.slice A5 (K.CN k) c5]):=by rw [hA5,hc5];exact HBX6.out
          clear HBX6 hA5 hc5
          have HBX6:=HBX6'
          clear HBX6'
          clear b0 b1 b2 b3 b4 b5 b6 b7 b8 b9 b10
          obtain ⟨b0,b1,b2,b3,b4,b5,b6,b7,b8,b9,b10⟩:=zC5 HBX6.out
          obtain ⟨o0,o1⟩:=blk2 HI6.out.nt
          have HSZ:Hid (w2.heap.size+1≤w6.heap.size):=HI6.out.size
          go_wp2_with (first
              |(at_builtin;refine wpList_append_own_at _ ?q2x_1 (.tmp 59) (.tmp 61) 50 ?q2x_2 (w2.heap.size+1) 32 j0 (.agg #[.string ⟨#[]⟩,.string ⟨#[]⟩,.string ⟨#[]⟩,.int .i64 0,.int .i64 0,.int .i64 0,.int .i64 0,.string ⟨#[]⟩,.int .i64 0,.int .i64 0,.slice none 0 0]) 11 136 Tryz.underlying50 HJ0.out HY0.out HY1.out HY2.out ?q2x_3 ?q2x_4 (.slice A0 k cap0) k (lc LM) ?q2x_5 ((by have h:=HI6.out.ol;rw [HNk.out] at h;exact h.alloc _)) ⟨w6.heap.size,0,none⟩ 1 1 [.string (K.Nm k),.string (K.Fr k),.string (K.To k),.int .i64 (K.Kd k),.int .i64 (K.Ln k),.int .i64 (K.Up k),.int .i64 (K.Dn k),.string (K.Sc k),.int .i64 (K.Wd k),.int .i64 (K.Ht k),.slice A5 (K.CN k) c5] ?q2x_7 (rfl) (World.news_of_block (cs:=#[.string (K.Nm k),.string (K.Fr k),.string (K.To k),.int .i64 (K.Kd k),.int .i64 (K.Ln k),.int .i64 (K.Up k),.int .i64 (K.Dn k),.string (K.Sc k),.int .i64 (K.Wd k),.int .i64 (K.Ht k),.slice A5 (K.CN k) c5]) (t:=32) (fr:=(0,0)) (heap_alloc_new _ _)) (by simp [Value.oneCell']) (zN8 HK2.out) (hby_lk HK2.out) (zC6 HSZ.out _) ?q2x_14
                case q2x_1=>exact rfl
                case q2x_2=>exact rfl
                case q2x_3=>exact rfl
                case q2x_4=>decide
                case q2x_5=>exact rfl
                case q2x_7=>exact rfl
                intro u2 w7 hown2 hgrow2 hnil2 hat2
                obtain ⟨g2,cap2,rfl,hb2,hl2⟩:=hown2.form (by omega)
                have HO7:=LH hown2
                have HG7:=LH hgrow2
                have HAT7:=LH hat2
                have HN7:Hid (Blk w7 w2.heap.size 52 #[vn,.slice A0 k cap0]):=(HI6.out.nt.alloc _).grown hgrow2 (fun e=>by have h:=(HI6.out.ol.lt _ e.symm).1;omega)
                obtain ⟨o0,o1⟩:=blk2 HN7.out
                have f7:=HN7.out.frozen 1
                clear hown2 hgrow2 hnil2 hat2 hb2 hl2))
          go_roundw
          case measure=>exact HMS.out
          case rel=>
              refine ⟨k',LM++[lkC K k A5 c5],.slice (some ⟨g2,0,none⟩) (k+1) cap2,rfl,HK'.out.1,?_,?_⟩
              ·show lkx (LM++[lkC K k A5 c5])=recL K k'
               rw [HK'.out.2,recL_succ,←HE.out]
               simp [lkx,lkC]
              ·refine HI6.out.linkApp (p:=lkC K k A5 c5) (zC2 HT6.out) (fun hn b off e=>?_) (by rw [HNk.out,zH1];exact HO7.out) HG7.out (by have h:=HAT7.out;rw [zB0] at h;exact h)
               have h1:=HA6.out b off hn e
               refine ⟨by have:=HI.out.size;omega,fun e2=>?_,fun e2=>?_⟩
               ·have:=(HI.out.on.lt b e2.symm).2;omega
               ·have:=(HI.out.ol.lt b e2.symm).2;omega
         case neg=>
          have hS1:0<(K.CN k):=by omega
          have HS1:=LH hS1
          have t1:(((K.CN k):Int)==0)=false:=by rw [beq_eq_false_iff_ne];omega
          have t2:((K.CN k)==0)=false:=by rw [beq_eq_false_iff_ne];omega
          have t3:¬((K.CN k):Int)=0:=by omega
          have t4:¬(K.CN k)=0:=hS0
          have t5:decide (((K.CN k):Int)=0)=false:=dF t3
          have HO0:Hid ((w4.alloc (.cells #[] 141)).ownsRow w4.heap.size 141 2 (.slice (some ⟨w4.heap.size,0,none⟩) 0 0) 0 []):=World.ownsRow_lit w4 #[] 0 (nl _) (by unfold maxLen;omega) rfl
          have HA4:Hid (Below w4.heap.size w4 (w4.alloc (.cells #[] 141))):=(bR _ w4).alloc (nl _) _
          obtain ⟨ab,aoff,hAb,hTA⟩:∃b off,(K.CA k)=some ⟨b,off,none⟩∧TabAt (w4.alloc (.cells #[] 141)) b off (K.CN k) (K.CX k) (K.CY k):=by
              rcases (HT4.out.below (nl _) HA4.out).2 with h0 |⟨b,off,e,h⟩
              ·exact absurd h0 hS0
              ·exact ⟨b,off,e,h⟩
          have HTA:=LH hTA
          obtain ⟨SI0,si0,sz0,sz1,sz2⟩:=zB2 info39
          have SI1:=LH si0
          have SI2:=LH sz0
          have SI3:=LH sz1
          have SI4:=LH sz2
          rw [hAb] at HBX
          have HBE:Hid (Blk (w4.alloc (.cells #[] 141)) wr.heap.size 32 #[.string (K.Nm k),.string (K.Fr k),.string (K.To k),.int .i64 (K.Kd k),.int .i64 (K.Ln k),.int .i64 (K.Up k),.int .i64 (K.Dn k),.string (K.Sc k),.int .i64 (K.Wd k),.int .i64 (K.Ht k),.slice (some ⟨ab,aoff,none⟩) (K.CN k) (K.CC k)]):=HBX.out.alloc _
          obtain ⟨e0,e1,e2,e3,e4,e5,e6,e7,e8,e9,e10⟩:=zC5 HBE.out
          rw [hAb] at b10
          clear si0 sz0 sz1 sz2 hTA hS0 hS1
          go_upto_region 15 with (first
              |(at_builtin;refine wpList_append_own_at _ ?sb_1 (.tmp 48) (.tmp 50) 28 ?sb_2 (w4.heap.size) 141 SI0 (.agg #[.int .i64 0,.int .i64 0]) 2 16 Tryz.underlying28 SI1.out SI2.out SI3.out SI4.out ?sb_3 ?sb_4 (.slice (some ⟨w4.heap.size,0,none⟩) 0 0) (0) ([]) ?sb_5 (HO0.out) (⟨ab,aoff,none⟩) ((K.CN k)) ((K.CC k)) (kc (edl (K.CN k) (K.CX k) (K.CY k))) ?sb_7 (by rw [kc_len,zD6]) (knews HTA.out) (kc_one_ _) (h63_k (Nat.zero_le _) HS2.out) (hby_k (Nat.zero_le _) HS2.out) (HA4.out.size) ?sb_14
                case sb_1=>exact rfl
                case sb_2=>exact rfl
                case sb_3=>exact rfl
                case sb_4=>decide
                case sb_5=>exact rfl
                case sb_7=>exact rfl
                intro v2 w5 hown2 hgrow2 hnil2 hat2
                obtain ⟨g5,c5,rfl,hb2,hl2⟩:=hown2.form (by have:=HS1.out;omega)
                rw [Nat.zero_add,List.nil_append] at hown2
                rw [Nat.zero_add]
                have HR5:=LH hown2
                have HB5:Hid (Below w4.heap.size w4 w5):=zK0 HO0.out HA4.out hgrow2
                have HBX5:Hid (Blk w5 wr.heap.size 32 #[.string (K.Nm k),.string (K.Fr k),.string (K.To k),.int .i64 (K.Kd k),.int .i64 (K.Ln k),.int .i64 (K.Up k),.int .i64 (K.Dn k),.string (K.Sc k),.int .i64 (K.Wd k),.int .i64 (K.Ht k),.slice (some ⟨ab,aoff,none⟩) (K.CN k) (K.CC k)]):=HBX.out.call HB5.out
                obtain ⟨b0,b1,b2,b3,b4,b5,b6,b7,b8,b9,b10⟩:=zC5 HBX5.out
                have f6:=HBX5.out.frozen 10
                clear hown2 hgrow2 hnil2 hat2 hb2 hl2))
          have HG4:Hid (wr.heap.size<w4.heap.size):=HBX.out.lt
          have HL6:Hid (Below wr.heap.size wr (w5.setCell ⟨wr.heap.size,10,none⟩ (.slice (some ⟨g5,0,none⟩) (K.CN k) c5))):=(HAL.out.trans (HB5.out.mono HAL.out.size)).setCell (p:=⟨wr.heap.size,10,none⟩) (nl _) _
          have HBX6:Hid (Blk (w5.setCell ⟨wr.heap.size,10,none⟩ (.slice (some ⟨g5,0,none⟩) (K.CN k) c5)) wr.heap.size 32 #[.string (K.Nm k),.string (K.Fr k),.string (K.To k),.int .i64 (K.Kd k),.int .i64 (K.Ln k),.int .i64 (K.Up k),.int .i64 (K.Dn k),.string (K.Sc k),.int .i64 (K.Wd k),.int .i64 (K.Ht k),.slice (some ⟨g5,0,none⟩) (K.CN k) c5]):=set10 w5 wr.heap.size HBX5.out
          have HI6:=LH (HI.out.call HL6.out)
          have HG5:Hid (w4.heap.size≤g5):=(HR5.out.lt g5 rfl).1
          have HT6:Hid (TabIn (w5.setCell ⟨wr.heap.size,10,none⟩ (.slice (some ⟨g5,0,none⟩) (K.CN k) c5)) (some ⟨g5,0,none⟩) (K.CN k) (K.CX k) (K.CY k)):=(kown_tab HR5.out HS2.out).grown (zG1 w5 wr.heap.size 10 _) (fun hn b off e e2=>by cases e;have:=Option.some.inj e2;have:=HG4.out;have:=HG5.out;omega)
          have HA6:Hid (∀b off,(edl (K.CN k) (K.CX k) (K.CY k)).length≠0→(some ⟨g5,0,none⟩:Option Addr)=some ⟨b,off,none⟩→wr.heap.size<b):=fun b off hn e=>by cases e;have:=HG4.out;have:=HG5.out;omega
          generalize w5.setCell ⟨wr.heap.size,10,none⟩ (.slice (some ⟨g5,0,none⟩) (K.CN k) c5)=w6 at HBX6 HL6 HI6 HT6⊢
          generalize (some ⟨g5,0,none⟩:Option Addr)=A5 at HBX6 HT6 HA6⊢
          clear f6 b0 b1 b2 b3 b4 b5 b6 b7 b8 b9 b10 e0 e1 e2 e3 e4 e5 e6 e7 e8 e9 e10 HBX5 HB5 HBX HBE HT4 HTA HO0 HA4 HR5 HG5
          obtain ⟨b0,b1,b2,b3,b4,b5,b6,b7,b8,b9,b10⟩:=zC5 HBX6.out
          go_upto_region 17 with fail
          clear t1 t2 t3 t4 t5
          clear b0 b1 b2 b3 b4 b5 b6 b7 b8 b9 b10
          obtain ⟨b0,b1,b2,b3,b4,b5,b6,b7,b8,b9,b10⟩:=zC5 HBX6.out
          obtain ⟨o0,o1⟩:=blk2 HI6.out.nt
          have HSZ:Hid (w2.heap.size+1≤w6.heap.size):=HI6.out.size
          go_wp2_with (first
              |(at_builtin;refine wpList_append_own_at _ ?q2y_1 (.tmp 59) (.tmp 61) 50 ?q2y_2 (w2.heap.size+1) 32 j0 (.agg #[.string ⟨#[]⟩,.string ⟨#[]⟩,.string ⟨#[]⟩,.int .i64 0,.int .i64 0,.int .i64 0,.int .i64 0,.string ⟨#[]⟩,.int .i64 0,.int .i64 0,.slice none 0 0]) 11 136 Tryz.underlying50 HJ0.out HY0.out HY1.out HY2.out ?q2y_3 ?q2y_4 (.slice A0 k cap0) k (lc LM) ?q2y_5 ((by have h:=HI6.out.ol;rw [HNk.out] at h;exact h.alloc _)) ⟨w6.heap.size,0,none⟩ 1 1 [.string (K.Nm k),.string (K.Fr k),.string (K.To k),.int .i64 (K.Kd k),.int .i64 (K.Ln k),.int .i64 (K.Up k),.int .i64 (K.Dn k),.string (K.Sc k),.int .i64 (K.Wd k),.int .i64 (K.Ht k),.slice A5 (K.CN k) c5] ?q2y_7 (rfl) (World.news_of_block (cs:=#[.string (K.Nm k),.string (K.Fr k),.string (K.To k),.int .i64 (K.Kd k),.int .i64 (K.Ln k),.int .i64 (K.Up k),.int .i64 (K.Dn k),.string (K.Sc k),.int .i64 (K.Wd k),.int .i64 (K.Ht k),.slice A5 (K.CN k) c5]) (t:=32) (fr:=(0,0)) (heap_alloc_new _ _)) (by simp [Value.oneCell']) (zN8 HK2.out) (hby_lk HK2.out) (zC6 HSZ.out _) ?q2y_14
                case q2y_1=>exact rfl
                case q2y_2=>exact rfl
                case q2y_3=>exact rfl
                case q2y_4=>decide
                case q2y_5=>exact rfl
                case q2y_7=>exact rfl
                intro u2 w7 hown2 hgrow2 hnil2 hat2
                obtain ⟨g2,cap2,rfl,hb2,hl2⟩:=hown2.form (by omega)
                have HO7:=LH hown2
                have HG7:=LH hgrow2
                have HAT7:=LH hat2
                have HN7:Hid (Blk w7 w2.heap.size 52 #[vn,.slice A0 k cap0]):=(HI6.out.nt.alloc _).grown hgrow2 (fun e=>by have h:=(HI6.out.ol.lt _ e.symm).1;omega)
                obtain ⟨o0,o1⟩:=blk2 HN7.out
                have f7:=HN7.out.frozen 1
                clear hown2 hgrow2 hnil2 hat2 hb2 hl2))
          go_roundw
          case measure=>exact HMS.out
          case rel=>
              refine ⟨k',LM++[lkC K k A5 c5],.slice (some ⟨g2,0,none⟩) (k+1) cap2,rfl,HK'.out.1,?_,?_⟩
              ·show lkx (LM++[lkC K k A5 c5])=recL K k'
               rw [HK'.out.2,recL_succ,←HE.out]
               simp [lkx,lkC]
              ·refine HI6.out.linkApp (p:=lkC K k A5 c5) (zC2 HT6.out) (fun hn b off e=>?_) (by rw [HNk.out,zH1];exact HO7.out) HG7.out (by have h:=HAT7.out;rw [zB0] at h;exact h)
               have h1:=HA6.out b off hn e
               refine ⟨by have:=HI.out.size;omega,fun e2=>?_,fun e2=>?_⟩
               ·have:=(HI.out.on.lt b e2.symm).2;omega
               ·have:=(HI.out.ol.lt b e2.symm).2;omega
        ·have e:k=m:=by have:=Hk.out;omega
         have T0:decide ((k:Int)<(m:Int))=false:=by simp<;> omega
         have T0':decide (k<m)=false:=dF hlt
         have HLE:Hid (lkx LM=recL K m):=by rw [←e];exact HE.out
         have HRB:Hid (Blk wr (w.heap.size+1) 52 #[.slice none 0 0,.slice none 0 0]):=HR2.out.call HI.out.bl
         obtain ⟨A1,c1,hv1⟩:=zI9 HI.out.on
         obtain ⟨A2,c2,hv2⟩:=zI9 HI.out.ol
         subst hv1 hv2
         obtain ⟨o0,o1⟩:=blk2 HI.out.nt
         have f0:=HRB.out.frozen 0
         have f1:=HRB.out.frozen 1
         obtain ⟨r0,r1⟩:=blk2 HRB.out
         clear e hlt HE Hk
         go_wp2_with fail
         have HRS:Hid (Blk ((wr.setCell ⟨w.heap.size+1,0,none⟩ (.slice A1 NM.length c1)).setCell ⟨w.heap.size+1,1,none⟩ (.slice A2 LM.length c2)) (w.heap.size+1) 52 #[.slice A1 NM.length c1,.slice A2 LM.length c2]):=(HRB.out.set_ 0 _).set_ 1 _
         obtain ⟨z0,z1⟩:=blk2 HRS.out
         have HRT:Hid (CpPost (recN D n) (recL K m) w (.agg #[.slice A1 NM.length c1,.slice A2 LM.length c2]) ((wr.setCell ⟨w.heap.size+1,0,none⟩ (.slice A1 NM.length c1)).setCell ⟨w.heap.size+1,1,none⟩ (.slice A2 LM.length c2))):=by
          have hN1:NM.length≤300000:=by
              have h1:=congrArg List.length HNE.out
              rw [zA3] at h1
              have h3:(ndx NM).length=NM.length:=by simp [ndx]
              have:=HNM.out.1
              omega
          have hN2:LM.length≤300000:=by
              have h1:=congrArg List.length HLE.out
              rw [zA4] at h1
              have h3:(lkx LM).length=LM.length:=by simp [lkx]
              have:=HNM.out.2
              omega
          have hlow:w.heap.size+1<w2.heap.size+1:=by have:=HR2.out.lt;omega
          have hp:=((HI.out.rows.low hlow 0 (.slice A1 NM.length c1)).low hlow 1 (.slice A2 LM.length c2)).cp (by have:=HR2.out.lt;omega) (((zA1 HB2.out HI.out.bl).setCell (p:=⟨w.heap.size+1,0,none⟩) (by show w.heap.size≤w.heap.size+1;omega) (.slice A1 NM.length c1)).setCell (p:=⟨w.heap.size+1,1,none⟩) (by show w.heap.size≤w.heap.size+1;omega) (.slice A2 LM.length c2))
          rw [HNE.out,HLE.out] at hp
          exact hp
         refine bodyPost_ret (v:=.agg #[.slice A1 NM.length c1,.slice A2 LM.length c2]) (by simp [results,Tryz.results35,go_sem,z0,z1]) rfl ?_
         exact ⟨_,rfl,HRT.out⟩
theorem zC8 {P:Program} (w:World) {ops:Array Oper} {o:Oper} {a:Act} {K:Act→World→Prop} {Q:Exit→Act→World→Prop} {E:Prop} (hgd:o.guard=none) (s x:Operand) (t:TypeId)
 (ho:o.op= .call { callee:=.builtin .append,args:=#[s,x],argTypes:=#[t,t] })
 (base:Nat) (e:TypeId) (i:TypeInfo) (z:Value) (size bytes:Nat) (ht:P.underlying t=some (.slice e)) (hi:P.info? e=some i) (hz:i.zero=some z)
 (hsize:i.size=size) (hby:i.bytes=bytes) (hzs:z.cells.size=size) (hsz:0<size)
 (v:Value) (n:Nat) (xs:List Value) (hs:a.eval s=v) (hown:w.ownsRow base e size v n xs)
 (ad:Addr) (m c:Nat) (news:List Value) (hx:a.eval x= .slice (some ad) m c) (hl:news.length=m*size) (hnews:∀j u,news[j]?=some u→w.cell? (ad.add j)=some u) (h1:∀u∈news,u.oneCell'=true)
 (h63:n+m≤maxLen) (hbytes:(n+m)*bytes≤140737488355328) (hbase:base≤w.heap.size)
 (h:∀A cap w',w'.ownsRow base e size (.slice A (n+m) cap) (n+m) (xs++news)→w.grownBy w' v.ownBlock→K (a.put o.dst (.slice A (n+m) cap)) w'):
 if Region.wanted o (yielded ops a.tmps)=true then Oper.wp P o a w K Q else E:=by
 have hw:Region.wanted o (yielded ops a.tmps)=true:=by simp [Region.wanted,hgd]
 rw [if_pos hw]
 obtain ⟨v',w',hr,h2,h3,h4,h5⟩:=run_append_own_at (P:=P) w base t o.type e i z size bytes ht hi hz hsize hby hzs hsz v n xs hown ad m c news hl hnews h1 h63 hbytes hbase
 obtain ⟨A,cap,rfl⟩:=zI9 h2
 unfold Oper.wp execOp
 simp only [ho,resolve,invoke,builtin,Sem.run_bind,Sem.run_pure,Result.andThen_ok,List.map_toArray,List.map_cons,List.map_nil,hs,hx,hr]
 exact h A cap w' h2 h3
theorem lc_take (M:List Lkm):∀i,lc (M.take i)=(lc M).take (i*11):=by
 induction M with
 |nil=>intro i;simp [lc]
 |cons p M ih=>
  intro i
  cases i with
  |zero=>simp [lc]
  |succ i=>
   have e:lc (p::M)=lcm' p++lc M:=by simp [lc]
   have e2:lc ((p::M).take (i+1))=lcm' p++lc (M.take i):=by simp [lc]
   have hl:(lcm' p).length=11:=rfl
   rw [e,e2,ih,List.take_append,List.take_of_length_le (show (lcm' p).length≤(i+1)*11 by rw [hl];omega),hl,show (i+1)*11 - 11=i*11 by omega]
theorem lc_drop (M:List Lkm):∀i,lc (M.drop i)=(lc M).drop (i*11):=by
 induction M with
 |nil=>intro i;simp [lc]
 |cons p M ih=>
  intro i
  cases i with
  |zero=>simp
  |succ i=>
   have e:lc (p::M)=lcm' p++lc M:=by simp [lc]
   have hl:(lcm' p).length=11:=rfl
   rw [List.drop_succ_cons,ih,e,List.drop_append,List.drop_eq_nil_of_le (show (lcm' p).length≤(i+1)*11 by rw [hl];omega),List.nil_append,hl,show (i+1)*11 - 11=i*11 by omega]
theorem lc_cell (M:List Lkm):∀u∈lc M,u.oneCell'=true:=by
 intro u hu
 unfold lc at hu
 rw [List.mem_flatMap] at hu
 obtain ⟨p,_,hu⟩:=hu
 unfold lcm' lcs at hu
 simp at hu
 rcases hu with rfl |rfl |rfl |rfl |rfl |rfl |rfl |rfl |rfl |rfl |rfl<;> rfl
theorem lk_cells {w:World} {b off:Nat} {M:List Lkm} (h:LkIn w (some ⟨b,off,none⟩) M.length (lksM M)):∀j u,(lc M)[j]?=some u→w.cell? ⟨b,off+j,none⟩=some u:=by
 intro j u hj
 have hlen:j<(lc M).length:=by
  rcases Nat.lt_or_ge j (lc M).length with g |g
  ·exact g
  ·rw [List.getElem?_eq_none g] at hj;cases hj
 rw [lc_len] at hlen
 have hk:j / 11<M.length:=by omega
 obtain ⟨b',off',e,_,hC,_⟩:=h.at hk
 cases e
 rw [zU2 M (j / 11) hk] at hC
 have hk2:M[j / 11]?=some (M.getD (j / 11) ⟨zLk,none,0⟩):=by simp [List.getD,hk]
 have h1:=zK4 lcm' 11 (fun _=>rfl) M (j / 11) (j % 11) _ hk2 (by omega)
 have e1:j / 11*11+j % 11=j:=by omega
 rw [e1] at h1
 have h2:(lc M)[j]?=(lcm' (M.getD (j / 11) ⟨zLk,none,0⟩))[j % 11]?:=h1
 rw [hj] at h2
 have:=hC (j % 11) u h2.symm
 rw [←this,show off+j / 11*11+j % 11=off+j by omega]
theorem lk_news_take {w:World} {b off i:Nat} {M:List Lkm} (h:LkIn w (some ⟨b,off,none⟩) M.length (lksM M)):∀j u,(lc (M.take i))[j]?=some u→w.cell? ((⟨b,off,none⟩:Addr).add j)=some u:=by
 intro j u hj
 rw [lc_take,List.getElem?_take] at hj
 split at hj
 ·rw [kaddr];exact lk_cells h j u hj
 ·cases hj
theorem lk_news_drop {w:World} {b off i:Nat} {M:List Lkm} (h:LkIn w (some ⟨b,off,none⟩) M.length (lksM M)):∀j u,(lc (M.drop i))[j]?=some u→w.cell? ((⟨b,off+i*11,none⟩:Addr).add j)=some u:=by
 intro j u hj
 rw [lc_drop,List.getElem?_drop] at hj
 rw [kaddr,show off+i*11+j=off+(i*11+j) by omega]
 exact lk_cells h _ u hj
end Go.Proofs.YtchakniaoeodmaaGreatDoor

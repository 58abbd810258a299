/- Merged texts of these proofs: ScIn,ScCm,ScRg. -/
import Derived.Test.YtchakniaoeodmaaGreatDoorMgMs
import Derived.Test.YtchakniaoeodmaaGreatDoorMgP
import Derived.Test.YtchakniaoeodmaaGreatDoorMgAlx
import Derived.Test.YtchakniaoeodmaaGreatDoorMgIT
namespace Go.Proofs.YtchakniaoeodmaaGreatDoor
open Go.RowKit
set_option linter.unusedVariables false
set_option linter.unusedSimpArgs false
def endR (s:ByteArray):Ndr:=⟨s,1,0,0,0,1,[(0,0),(1,0)],false,0⟩
def rgP (c:Chr):Prop:=((c.kd=1∨c.kd=2)∧VS [c.x] [])∨((c.kd=4∨c.kd=5)∧VS [endR c.l.fr,endR c.l.tn] [c.l])∨(c.kd=3∧zD1 c.x.nm.data.toList=true)∨(c.kd=6∧zD1 c.l.nm.data.toList=true)
def freeP (a b:Chr):Prop:=b.kd=6∨(b.l.fr≠a.x.nm∧b.l.tn≠a.x.nm)
def indP (a b:Chr):Prop:=rgP a∧rgP b∧((a.kd≤3∧b.kd≤3∧a.x.nm≠b.x.nm)∨(3<a.kd∧3<b.kd∧a.l.nm≠b.l.nm)∨(a.kd≤3∧3<b.kd∧freeP a b)∨(3<a.kd∧b.kd≤3∧freeP b a))
theorem rgP.known {c:Chr} (h:rgP c):1≤c.kd∧c.kd≤6:=by
 rcases h with ⟨h,_⟩|⟨h,_⟩|⟨h,_⟩|⟨h,_⟩<;> omega
theorem indP.symm {a b:Chr} (h:indP a b):indP b a:=by
 obtain ⟨h1,h2,h3⟩:=h
 refine ⟨h2,h1,?_⟩
 rcases h3 with ⟨p,q,r⟩|⟨p,q,r⟩|⟨p,q,r⟩|⟨p,q,r⟩
 ·exact .inl ⟨q,p,fun e=>r e.symm⟩
 ·exact .inr (.inl ⟨q,p,fun e=>r e.symm⟩)
 ·exact .inr (.inr (.inr ⟨q,p,r⟩))
 ·exact .inr (.inr (.inl ⟨q,p,r⟩))
theorem ind_alk {N:List Ndr} {L:List Lkr} {a b:Chr} (hv:VS N L) (h:indP a b) (h1:okA N L [a,b]) (h2:okA N L [b,a]):VS (aN N [a,b]) (aL L [a,b])∧VS (aN N [b,a]) (aL L [b,a])∧alkP (aN N [a,b]) (aL L [a,b]) (aN N [b,a]) (aL L [b,a]):=by
 obtain ⟨v1,p1,q1⟩:=aN_re _ hv h1
 obtain ⟨v2,p2,q2⟩:=aN_re _ hv h2
 have ka:=h.1.known
 have kb:=h.2.1.known
 obtain ⟨s1,s2⟩:=swap_ok (N:=N) (L:=L) (a:=a) (b:=b) ka kb
  (fun g1 g2=>by rcases h.2.2 with ⟨_,_,r⟩|⟨p,_,_⟩|⟨_,p,_⟩|⟨p,_,_⟩<;> first |exact r |omega)
  (fun g1 g2=>by rcases h.2.2 with ⟨p,_,_⟩|⟨_,_,r⟩|⟨p,_,_⟩|⟨_,p,_⟩<;> first |exact r |omega)
 exact ⟨v1,v2,(alk_perm v1 v2).2 ⟨p1.trans (s1.trans p2.symm),q1.trans (s2.trans q2.symm)⟩⟩
def kd2K (a b:Int) (k:Nat):Int:=if k=0 then a else b
def nd2K (C:Nds) (i:Nat) (D:Nds) (j:Nat):Nds:=⟨fun k=>if k=0 then C.Nm i else D.Nm j,fun k=>if k=0 then C.Kd i else D.Kd j,fun k=>if k=0 then C.Ax i else D.Ax j,fun k=>if k=0 then C.Ay i else D.Ay j,fun k=>if k=0 then C.Iv i else D.Iv j,fun k=>if k=0 then C.Gd i else D.Gd j,fun k=>if k=0 then C.SA i else D.SA j,fun k=>if k=0 then C.SN i else D.SN j,fun k=>if k=0 then C.SC i else D.SC j,fun k=>if k=0 then C.SX i else D.SX j,fun k=>if k=0 then C.SY i else D.SY j,fun k=>if k=0 then C.Pt i else D.Pt j,fun k=>if k=0 then C.Rs i else D.Rs j⟩
def lk2K (C:Lks) (i:Nat) (D:Lks) (j:Nat):Lks:=⟨fun k=>if k=0 then C.Nm i else D.Nm j,fun k=>if k=0 then C.Fr i else D.Fr j,fun k=>if k=0 then C.To i else D.To j,fun k=>if k=0 then C.Kd i else D.Kd j,fun k=>if k=0 then C.Ln i else D.Ln j,fun k=>if k=0 then C.Up i else D.Up j,fun k=>if k=0 then C.Dn i else D.Dn j,fun k=>if k=0 then C.Sc i else D.Sc j,fun k=>if k=0 then C.Wd i else D.Wd j,fun k=>if k=0 then C.Ht i else D.Ht j,fun k=>if k=0 then C.CA i else D.CA j,fun k=>if k=0 then C.CN i else D.CN j,fun k=>if k=0 then C.CC i else D.CC j,fun k=>if k=0 then C.CX i else D.CX j,fun k=>if k=0 then C.CY i else D.CY j⟩
theorem two_rec (ka kb:Int) (C:Nds) (i:Nat) (D:Nds) (i':Nat) (E:Lks) (j:Nat) (F:Lks) (j':Nat):recC (kd2K ka kb) (nd2K C i D i') (lk2K E j F j') 2=[chrR ka C i E j,chrR kb D i' F j']:=rfl
theorem two_in {w:World} {g:Nat} {ka kb:Int} {C D:Nds} {i i' j j':Nat} {E F:Lks} (hg:g<w.heap.size) (c1:CellsAt w g 0 (chv ka C i E j)) (c2:CellsAt w g 21 (chv kb D i' F j')) (t1:TabIn w (C.SA i) (C.SN i) (C.SX i) (C.SY i)) (t2:TabIn w (E.CA j) (E.CN j) (E.CX j) (E.CY j)) (t3:TabIn w (D.SA i') (D.SN i') (D.SX i') (D.SY i')) (t4:TabIn w (F.CA j') (F.CN j') (F.CX j') (F.CY j')):ChsIn w (some ⟨g,0,none⟩) 2 (kd2K ka kb) (nd2K C i D i') (lk2K E j F j'):=by
 refine ⟨by omega,.inr ⟨g,0,rfl,hg,fun k hk=>?_⟩⟩
 by_cases h:k=0
 ·subst h
  exact ⟨c1,t1,t2⟩
 ·obtain rfl:k=1:=by omega
  exact ⟨c2,t3,t4⟩
def c2A (ka:Int) (C:Nds) (i:Nat) (E:Lks) (j:Nat) (kb:Int) (D:Nds) (i':Nat) (F:Lks) (j':Nat):Array Value:=(chv ka C i E j++chv kb D i' F j').toArray
theorem c2_in {w:World} {g:Nat} {t:TypeId} {ka kb:Int} {C D:Nds} {i i' j j':Nat} {E F:Lks} (hb:Blk w g t (c2A ka C i E j kb D i' F j')) (t1:TabIn w (C.SA i) (C.SN i) (C.SX i) (C.SY i)) (t2:TabIn w (E.CA j) (E.CN j) (E.CX j) (E.CY j)) (t3:TabIn w (D.SA i') (D.SN i') (D.SX i') (D.SY i')) (t4:TabIn w (F.CA j') (F.CN j') (F.CX j') (F.CY j')):ChsIn w (some ⟨g,0,none⟩) 2 (kd2K ka kb) (nd2K C i D i') (lk2K E j F j'):=by
 have hc:=hb.cells
 refine two_in hb.lt (fun q v hq=>?_) (fun q v hq=>?_) t1 t2 t3 t4
 ·refine hc q v ?_
  show (chv ka C i E j++chv kb D i' F j')[q]?=some v
  rw [List.getElem?_append_left (List.getElem?_eq_some_iff.1 hq).1]
  exact hq
 ·have h:=hc (21+q) v (by
   show (chv ka C i E j++chv kb D i' F j')[21+q]?=some v
   rw [List.getElem?_append_right (by show 21≤21+q;omega)]
   have e:21+q - (chv ka C i E j).length=q:=by show 21+q - 21=q;omega
   rw [e]
   exact hq)
  rw [Nat.zero_add] at h
  exact h
theorem wpList_bslice {P:Program} {ops:Array Oper} {rest:List Oper} {op:Oper} {a:Act} {w:World} {Q:Exit→Act→World→Prop} (hw:Region.wanted op (yielded ops a.tmps)=true) (t:TypeId) (n:Nat) (ps:Array (Nat×Operand)) (ho:op.op= .buildSlice t n ps)
 (v:Value) (w':World) (hr:(Instr.buildSlice t n (ps.map fun x=>(x.1,a.eval x.2))).run P w= .ok v w')
 (h:wpList P ops Q rest (a.put op.dst v) w'):wpList P ops Q (op::rest) a w:=
 BigFrame.wpList_want hw fun K hK=>by
  unfold Oper.wp execOp
  simp only [ho,Sem.run_bind,hr,Sem.run_pure,Result.andThen_ok]
  exact hK _ _ h
theorem all_G2 {N:List Ndr} {L:List Lkr} (Kd:Nat→Int) (D:Nds) (K:Lks) (len:Nat) (hv:VS N L):∃(N1:List Ndr) (L1:List Lkr) (n1 m1 k:Nat) (er:Int),n1≤2000∧m1≤2000∧(er=0→okA N L (recC Kd D K len)∧N1=aN N (recC Kd D K len)∧L1=aL L (recC Kd D K len))∧∀w e w',AllR N L Kd D K len w e w'→AlG N1 L1 n1 m1 k er w e w':=by
 by_cases hok:okA N L (recC Kd D K len)
 ·have hq:=(aN_re _ hv hok).1
  refine ⟨aN N (recC Kd D K len),aL L (recC Kd D K len),(aN N (recC Kd D K len)).length,(aL L (recC Kd D K len)).length,len,0,by have:=hq.n300;omega,by have:=hq.l400;omega,fun _=>⟨hok,rfl,rfl⟩,fun w e w' h=>?_⟩
  rcases h with ⟨_,X,Y,A,B,n',m',c,d,rfl,r1,r2,a,b,hb⟩|⟨k,er,hk,_,he,h0,_⟩
  ·have e1:n'=(aN N (recC Kd D K len)).length:=by rw [←r1,zA3]
   have e2:m'=(aL L (recC Kd D K len)).length:=by rw [←r2,zA4]
   subst e1
   subst e2
   exact ⟨X,Y,A,B,c,d,rfl,r1,r2,a,b,hb⟩
  ·exact absurd (he.symm.trans (okA_lt hok hk)) h0
 ·obtain ⟨k,hk,a,b⟩:=okA_first len hok
  refine ⟨[],[],0,0,k,apE (aN N (recC Kd D K k)) (aL L (recC Kd D K k)) (chrR (Kd k) D k K k),by omega,by omega,fun h=>absurd h b,fun w e w' h=>?_⟩
  rcases h with ⟨h1,_⟩|⟨k',er,hk',a',b',c',he,hb⟩
  ·exact absurd h1 hok
  ·have e1:k'=k:=by
        rcases Nat.lt_trichotomy k' k with h |h |h
        ·exact absurd (b'.symm.trans (okA_lt a h)) c'
        ·exact h
        ·exact absurd (okA_lt a' h) b
   subst e1
   rw [←b'] at he
   exact zW0 he hb
theorem two_z {C D:Nds} {i i' j j':Nat} {E F:Lks} (h1:ZN (zA7 C i)) (h2:ZL (zA5 E j)) (h3:ZN (zA7 D i')) (h4:ZL (zA5 F j')):∀k,k<2→ZN (zA7 (nd2K C i D i') k)∧ZL (zA5 (lk2K E j F j') k):=fun k hk=>by
 by_cases h:k=0
 ·subst h
  exact ⟨h1,h2⟩
 ·obtain rfl:k=1:=by omega
  exact ⟨h3,h4⟩
def enX (k:Nat):Int:=if k=0 then 0 else 1
def enY (k:Nat):Int:=0
theorem tab_far {w:World} {g q n:Nat} {X Y:Nat→Int} {t:TypeId} {cs cs':Array Value} (h:TabIn w (some ⟨g,0,none⟩) n X Y) (hb:Blk w q t cs) (hne:g≠q):TabIn (w.setRow q cs') (some ⟨g,0,none⟩) n X Y:=
 h.grown (gr_setRow hb) fun hn b2 off2 e3 e4=>by
  have h1:=Option.some.inj e3
  have h2:=Option.some.inj e4
  have h3:g=b2:=congrArg (·.block) h1
  omega
theorem en_tab {w:World} {g:Nat} {t:TypeId} (h:Blk w g t #[.int .i64 0,.int .i64 0,.int .i64 1,.int .i64 0]):TabIn w (some ⟨g,0,none⟩) 2 enX enY:=by
 refine ⟨by omega,.inr ⟨g,0,rfl,h.lt,fun k hk=>?_⟩⟩
 have a0:w.cell? ⟨g,0,none⟩=some (.int .i64 0):=h.cell 0
 have a1:w.cell? ⟨g,1,none⟩=some (.int .i64 0):=h.cell 1
 have a2:w.cell? ⟨g,2,none⟩=some (.int .i64 1):=h.cell 2
 have a3:w.cell? ⟨g,3,none⟩=some (.int .i64 0):=h.cell 3
 by_cases h0:k=0
 ·subst h0
  exact ⟨a0,a1⟩
 ·obtain rfl:k=1:=by omega
  exact ⟨a2,a3⟩
set_option maxRecDepth 100000 in
set_option maxHeartbeats 8000000 in
theorem sc_end (s:ByteArray) (w:World):Calls Tryz.prog 92 #[.string s] w fun e w'=>∃g:Nat,e= .returned (.agg #[.string s,.int .i64 1,.int .i64 0,.int .i64 0,.int .i64 0,.int .i64 1,.slice (some ⟨g,0,none⟩) 2 2,.bool false,.int .i64 0])∧TabIn w' (some ⟨g,0,none⟩) 2 enX enY∧w.heap.size≤g∧Below w.heap.size w w':=by
 have HB:Hid (Blk (w.alloc (Obj.cells #[.string ⟨#[]⟩,.int .i64 0,.int .i64 0,.int .i64 0,.int .i64 0,.int .i64 0,.slice none 0 0,.bool false,.int .i64 0] 30)) w.heap.size 30 #[.string ⟨#[]⟩,.int .i64 0,.int .i64 0,.int .i64 0,.int .i64 0,.int .i64 0,.slice none 0 0,.bool false,.int .i64 0]):=Blk.new _ _ _
 have HAL:Hid (Below w.heap.size w (w.alloc (Obj.cells #[.string ⟨#[]⟩,.int .i64 0,.int .i64 0,.int .i64 0,.int .i64 0,.int .i64 0,.slice none 0 0,.bool false,.int .i64 0] 30))):=(bR _ w).alloc (nl _) _
 go_enter Tryz.func92,Tryz.ntmps92
 go_upto_region 1 with fail
 generalize w.alloc (Obj.cells #[.string ⟨#[]⟩,.int .i64 0,.int .i64 0,.int .i64 0,.int .i64 0,.int .i64 0,.slice none 0 0,.bool false,.int .i64 0] 30)=W at HB HAL⊢
 have HB2:=LH (HB.out.alloc (Obj.cells #[.int .i64 0,.int .i64 0,.int .i64 1,.int .i64 0] 141))
 have HT:Hid (Blk (W.alloc (Obj.cells #[.int .i64 0,.int .i64 0,.int .i64 1,.int .i64 0] 141)) W.heap.size 141 #[.int .i64 0,.int .i64 0,.int .i64 1,.int .i64 0]):=Blk.new _ _ _
 have HNE:Hid (W.heap.size≠w.heap.size∧w.heap.size≤W.heap.size):=by have:=HB.out.lt;exact ⟨by omega,by omega⟩
 go_wp2_with (first
  |(refine wpList_store_row rfl 30 (.tmp 2) (.tmp 7) rfl w.heap.size #[.string s,.int .i64 1,.int .i64 0,.int .i64 0,.int .i64 0,.int .i64 1,.slice (some ⟨W.heap.size,0,none⟩) 2 2,.bool false,.int .i64 0] rfl rfl _ _ HB2.out (by kernel_rfl) rfl (by kernel_rfl) ?_))
 refine bodyPost_ret (v:=.agg #[.string s,.int .i64 1,.int .i64 0,.int .i64 0,.int .i64 0,.int .i64 1,.slice (some ⟨W.heap.size,0,none⟩) 2 2,.bool false,.int .i64 0]) (results_cell_row Tryz.results92 _ _ w.heap.size 30 #[.string s,.int .i64 1,.int .i64 0,.int .i64 0,.int .i64 0,.int .i64 1,.slice (some ⟨W.heap.size,0,none⟩) 2 2,.bool false,.int .i64 0] (0,0) _ (by rfl) HB2.out.setRow Tryz.underlying30 rfl (by kernel_rfl)) rfl ⟨W.heap.size,rfl,?_,HNE.out.2,?_⟩
 ·exact tab_far (en_tab HT.out) HB2.out HNE.out.1
 ·exact zB4 (HAL.out.alloc HNE.out.2 _) HB2.out (nl _)
def enK (fr tn:ByteArray) (g h:Nat):Nds:=⟨fun k=>if k=0 then fr else tn,fun _=>1,fun _=>0,fun _=>0,fun _=>0,fun _=>1,fun k=>if k=0 then some ⟨g,0,none⟩ else some ⟨h,0,none⟩,fun _=>2,fun _=>2,fun _=>enX,fun _=>enY,fun _=>false,fun _=>0⟩
theorem enK_in {w:World} {fr tn:ByteArray} {g h G:Nat} (hb:Blk w G 30 #[.string fr,.int .i64 1,.int .i64 0,.int .i64 0,.int .i64 0,.int .i64 1,.slice (some ⟨g,0,none⟩) 2 2,.bool false,.int .i64 0,.string tn,.int .i64 1,.int .i64 0,.int .i64 0,.int .i64 0,.int .i64 1,.slice (some ⟨h,0,none⟩) 2 2,.bool false,.int .i64 0]) (t1:TabIn w (some ⟨g,0,none⟩) 2 enX enY) (t2:TabIn w (some ⟨h,0,none⟩) 2 enX enY):NdIn w (some ⟨G,0,none⟩) 2 (enK fr tn g h):=by
 refine ⟨by omega,.inr ⟨G,0,rfl,hb.lt,fun k hk=>?_⟩⟩
 by_cases h0:k=0
 ·subst h0
  refine ⟨fun i v hi=>?_,t1⟩
  have h9:i<9:=(List.getElem?_eq_some_iff.1 hi).1
  rw [←hb.cells i v (by rw [←hi];match i,h9 with |0,_=>rfl |1,_=>rfl |2,_=>rfl |3,_=>rfl |4,_=>rfl |5,_=>rfl |6,_=>rfl |7,_=>rfl |8,_=>rfl)]
 ·obtain rfl:k=1:=by omega
  refine ⟨fun i v hi=>?_,t2⟩
  have h9:i<9:=(List.getElem?_eq_some_iff.1 hi).1
  rw [←hb.cells (9+i) v (by rw [←hi];match i,h9 with |0,_=>rfl |1,_=>rfl |2,_=>rfl |3,_=>rfl |4,_=>rfl |5,_=>rfl |6,_=>rfl |7,_=>rfl |8,_=>rfl)]
  exact congrArg w.cell? (by rw [Nat.zero_add];simp)
set_option maxRecDepth 100000 in
set_option maxHeartbeats 16000000 in
theorem sc_between (E:Lks) (j:Nat) (w:World) (hT:TabIn w (E.CA j) (E.CN j) (E.CX j) (E.CY j)):Calls Tryz.prog 97 #[.agg (cLk E j)] w fun e w'=>∃gN gL g h:Nat,e= .returned (.agg #[.slice (some ⟨gN,0,none⟩) 2 2,.slice (some ⟨gL,0,none⟩) 1 1])∧NdIn w' (some ⟨gN,0,none⟩) 2 (enK (E.Fr j) (E.To j) g h)∧LkIn w' (some ⟨gL,0,none⟩) 1 (lk1K E j)∧Below w.heap.size w w':=by
 have HAL:Hid (Below w.heap.size w ((w.alloc (Obj.cells (cLk E j) 32)).alloc (Obj.cells #[.slice none 0 0,.slice none 0 0] 52))):=((bR _ w).alloc (nl _) _).alloc (by simp) _
 have HLX:Hid (Blk ((w.alloc (Obj.cells (cLk E j) 32)).alloc (Obj.cells #[.slice none 0 0,.slice none 0 0] 52)) w.heap.size 32 (cLk E j)):=(Blk.new _ _ _).alloc _
 have HRX:Hid (Blk ((w.alloc (Obj.cells (cLk E j) 32)).alloc (Obj.cells #[.slice none 0 0,.slice none 0 0] 52)) (w.heap.size+1) 52 #[.slice none 0 0,.slice none 0 0]):=by have h:=Blk.new (w.alloc (Obj.cells (cLk E j) 32)) 52 #[.slice none 0 0,.slice none 0 0];rw [zB0] at h;exact h
 have HT:=LH hT
 clear hT
 go_enter Tryz.func97,Tryz.ntmps97
 go_upto_region 1 with fail
 generalize (w.alloc (Obj.cells (cLk E j) 32)).alloc (Obj.cells #[.slice none 0 0,.slice none 0 0] 52)=w2 at HAL HLX HRX⊢
 have HS:Hid (∀w',Blk w' w.heap.size 32 (cLk E j)→(fun w'=>w'.cell? ⟨w.heap.size,1,none⟩=some (.string (E.Fr j))∧w'.cell? ⟨w.heap.size,2,none⟩=some (.string (E.To j))∧w'.rangeAt w.heap.size 0 [.string (E.Nm j),.string (E.Fr j),.string (E.To j),.int .i64 (E.Kd j),.int .i64 (E.Ln j),.int .i64 (E.Up j),.int .i64 (E.Dn j),.string (E.Sc j),.int .i64 (E.Wd j),.int .i64 (E.Ht j),.slice (E.CA j) (E.CN j) (E.CC j)]) w'):=fun w' hb=>⟨hb.cell 1,hb.cell 2,hb.cells⟩
 have hd:Below w2.heap.size w2 w2.drew:=(bR w2.heap.size w2).drew
 refine wp_region_held_drew (S:=(fun w'=>w'.cell? ⟨w.heap.size,1,none⟩=some (.string (E.Fr j))∧w'.cell? ⟨w.heap.size,2,none⟩=some (.string (E.To j))∧w'.rangeAt w.heap.size 0 [.string (E.Nm j),.string (E.Fr j),.string (E.To j),.int .i64 (E.Kd j),.int .i64 (E.Ln j),.int .i64 (E.Up j),.int .i64 (E.Dn j),.string (E.Sc j),.int .i64 (E.Wd j),.int .i64 (E.Ht j),.slice (E.CA j) (E.CN j) (E.CC j)])) (by kernel_rfl) ?_ (fun hHeld=>?_)
 ·exact HS.out _ (HLX.out.call hd)
 refine tkD 0 (some 3) ?_
 refine tkD 1 (some 4) ?_
 refine tkD 3 (some 6) ?_
 refine tkD 4 (some 7) ?_
 refine tkD 7 (some 10) ?_ (hy:=yieldsIf_load_mid (by rfl) 32 (.tmp 1) rfl w.heap.size 0 rfl _ _ (fun w h=>h.2.2) Tryz.underlying32 rfl (by kernel_rfl))
 refine wpAnyH_ready (rs:=[2,8]) (by kernel_rfl) (by simp) ?_
 refine AllReadyH.cons rfl (fun Kq hKq=>?_) (AllReadyH.cons rfl (fun Kq hKq=>?_) AllReadyH.nil)
 ·go_simp
  go_at_call 92
  with_reducible refine (sc_end (E.Fr j) _).mono ?_
  rintro e w3 ⟨g1,rfl,tg1,hgg1,hb⟩
  have hlg1:w2.heap.size≤g1:=nT hd.size hgg1
  have hd:=zA1 hd hb
  clear hb
  go_wp2_with fail
  refine hKq.out _ _ (HS.out _ (HLX.out.call hd)) (fun hHeld1=>?_)
  clear hKq Kq hHeld
  (try simp only [Act.put,sA,sB,sC])
  refine wpAnyH_ready (rs:=[5,8]) (by kernel_rfl) (by simp) ?_
  refine AllReadyH.cons rfl (fun Kq hKq=>?_) (AllReadyH.cons rfl (fun Kq hKq=>?_) AllReadyH.nil)
  ·go_simp
   go_at_call 92
   with_reducible refine (sc_end (E.To j) _).mono ?_
   rintro e w4 ⟨g2,rfl,tg2,hgg2,hb⟩
   have hlg2:w2.heap.size≤g2:=nT hd.size hgg2
   have hd:=zA1 hd hb
   have tg1:=tg1.below (nl _) hb
   clear hb
   go_wp2_with fail
   refine hKq.out _ _ (HS.out _ (HLX.out.call hd)) (fun hHeld2=>?_)
   clear hKq Kq hHeld1
   (try simp only [Act.put,sA,sB,sC])
   refine wpAnyH_ready (rs:=[6,8]) (by kernel_rfl) (by simp) ?_
   refine AllReadyH.cons rfl (fun Kq hKq=>?_) (AllReadyH.cons rfl (fun Kq hKq=>?_) AllReadyH.nil)
   ·go_simp
    have hb:Below w4.heap.size w4 (w4.alloc (Obj.cells #[.string (E.Fr j),.int .i64 1,.int .i64 0,.int .i64 0,.int .i64 0,.int .i64 1,.slice (some ⟨g1,0,none⟩) 2 2,.bool false,.int .i64 0,.string (E.To j),.int .i64 1,.int .i64 0,.int .i64 0,.int .i64 0,.int .i64 1,.slice (some ⟨g2,0,none⟩) 2 2,.bool false,.int .i64 0] 30)):=(bR _ _).alloc (nl _) _
    have hs6:w2.heap.size≤w4.heap.size:=hd.size
    have hd:=zA1 hd hb
    have tg1:=tg1.below (nl _) hb
    have tg2:=tg2.below (nl _) hb
    have bN:Blk (w4.alloc (Obj.cells #[.string (E.Fr j),.int .i64 1,.int .i64 0,.int .i64 0,.int .i64 0,.int .i64 1,.slice (some ⟨g1,0,none⟩) 2 2,.bool false,.int .i64 0,.string (E.To j),.int .i64 1,.int .i64 0,.int .i64 0,.int .i64 0,.int .i64 1,.slice (some ⟨g2,0,none⟩) 2 2,.bool false,.int .i64 0] 30)) w4.heap.size 30 #[.string (E.Fr j),.int .i64 1,.int .i64 0,.int .i64 0,.int .i64 0,.int .i64 1,.slice (some ⟨g1,0,none⟩) 2 2,.bool false,.int .i64 0,.string (E.To j),.int .i64 1,.int .i64 0,.int .i64 0,.int .i64 0,.int .i64 1,.slice (some ⟨g2,0,none⟩) 2 2,.bool false,.int .i64 0]:=Blk.new _ _ _
    clear hb
    refine hKq.out _ _ (HS.out _ (HLX.out.call hd)) (fun hHeld3=>?_)
    clear hKq Kq hHeld2
    (try simp only [Act.put,sA,sB,sC])
    generalize (w4.alloc (Obj.cells #[.string (E.Fr j),.int .i64 1,.int .i64 0,.int .i64 0,.int .i64 0,.int .i64 1,.slice (some ⟨g1,0,none⟩) 2 2,.bool false,.int .i64 0,.string (E.To j),.int .i64 1,.int .i64 0,.int .i64 0,.int .i64 0,.int .i64 1,.slice (some ⟨g2,0,none⟩) 2 2,.bool false,.int .i64 0] 30))=v3 at hd tg1 tg2 bN hHeld3⊢
    refine wpAnyH_ready (rs:=[8]) (by kernel_rfl) (by simp) ?_
    refine AllReadyH.cons rfl (fun Kq hKq=>?_) AllReadyH.nil
    go_simp
    have hb:Below v3.heap.size v3 (v3.alloc (Obj.cells (cLk E j) 32)):=(bR _ _).alloc (nl _) _
    have hs8:w2.heap.size≤v3.heap.size:=hd.size
    have hd:=zA1 hd hb
    have tg1:=tg1.below (nl _) hb
    have tg2:=tg2.below (nl _) hb
    have bN:=bN.call hb
    have bL:Blk (v3.alloc (Obj.cells (cLk E j) 32)) v3.heap.size 32 (cLk E j):=Blk.new v3 _ _
    clear hb
    refine hKq.out _ _ (HS.out _ (HLX.out.call hd)) (fun hHeld4=>?_)
    clear hKq Kq hHeld3
    (try simp only [Act.put,sA,sB,sC])
    generalize (v3.alloc (Obj.cells (cLk E j) 32))=v4 at hd tg1 tg2 bN bL hHeld4⊢
    refine tkD 9 (some 12) ?_
    have HR:=HRX.out.call hd
    obtain ⟨r0,r1⟩:=blk2 HR
    have f0:=HR.frozen 0
    have f1:=HR.frozen 1
    refine wpAnyH_ready (rs:=[10]) (by kernel_rfl) (by simp) ?_
    refine AllReadyH.cons rfl (fun Kq hKq=>?_) AllReadyH.nil
    go_simp
    have hlt:=HRX.out.lt
    have HE:Blk ((v4.setCell ⟨w.heap.size+1,0,none⟩ (.slice (some ⟨w4.heap.size,0,none⟩) 2 2)).setCell ⟨w.heap.size+1,1,none⟩ (.slice (some ⟨v3.heap.size,0,none⟩) 1 1)) w.heap.size 32 (cLk E j):=((HLX.out.call hd).far (p:=⟨w.heap.size+1,0,none⟩) (by show w.heap.size≠w.heap.size+1;omega) _).far (p:=⟨w.heap.size+1,1,none⟩) (by show w.heap.size≠w.heap.size+1;omega) _
    refine hKq.out _ _ (HS.out _ HE) (fun hHeldZ=>?_)
    clear hKq Kq hHeld4
    (try simp only [Act.put,sA,sB,sC])
    refine wpAnyH_done (by kernel_rfl) ?_ _
    have HZ:=(HR.set_ 0 (.slice (some ⟨w4.heap.size,0,none⟩) 2 2)).set_ 1 (.slice (some ⟨v3.heap.size,0,none⟩) 1 1)
    obtain ⟨z0,z1⟩:=blk2 HZ
    go_wp2_with fail
    have HBE:Below w.heap.size w ((v4.setCell ⟨w.heap.size+1,0,none⟩ (.slice (some ⟨w4.heap.size,0,none⟩) 2 2)).setCell ⟨w.heap.size+1,1,none⟩ (.slice (some ⟨v3.heap.size,0,none⟩) 1 1)):=((zA1 HAL.out hd).setCell (p:=⟨w.heap.size+1,0,none⟩) (by show w.heap.size≤w.heap.size+1;omega) _).setCell (p:=⟨w.heap.size+1,1,none⟩) (by show w.heap.size≤w.heap.size+1;omega) _
    refine bodyPost_ret (v:=.agg #[.slice (some ⟨w4.heap.size,0,none⟩) 2 2,.slice (some ⟨v3.heap.size,0,none⟩) 1 1]) (by simp [results,Tryz.results97,go_sem,z0,z1]) rfl ⟨w4.heap.size,v3.heap.size,g1,g2,rfl,enK_in ?_ ?_ ?_,lk1K_in ?_ (HT.out.below (nl _) HBE),HBE⟩
    ·exact (bN.far (p:=⟨w.heap.size+1,0,none⟩) (by show w4.heap.size≠w.heap.size+1;omega) _).far (p:=⟨w.heap.size+1,1,none⟩) (by show w4.heap.size≠w.heap.size+1;omega) _
    ·exact (tg1.set (fun b off e=>by have h1:=Option.some.inj e;have h3:g1=b:=congrArg (·.block) h1;omega) _).set (fun b off e=>by have h1:=Option.some.inj e;have h3:g1=b:=congrArg (·.block) h1;omega) _
    ·exact (tg2.set (fun b off e=>by have h1:=Option.some.inj e;have h3:g2=b:=congrArg (·.block) h1;omega) _).set (fun b off e=>by have h1:=Option.some.inj e;have h3:g2=b:=congrArg (·.block) h1;omega) _
    ·exact (bL.far (p:=⟨w.heap.size+1,0,none⟩) (by show v3.heap.size≠w.heap.size+1;omega) _).far (p:=⟨w.heap.size+1,1,none⟩) (by show v3.heap.size≠w.heap.size+1;omega) _
   ·go_simp
    have hb:Below w4.heap.size w4 (w4.alloc (Obj.cells (cLk E j) 32)):=(bR _ _).alloc (nl _) _
    have hs8:w2.heap.size≤w4.heap.size:=hd.size
    have hd:=zA1 hd hb
    have tg1:=tg1.below (nl _) hb
    have tg2:=tg2.below (nl _) hb
    have bL:Blk (w4.alloc (Obj.cells (cLk E j) 32)) w4.heap.size 32 (cLk E j):=Blk.new w4 _ _
    clear hb
    refine hKq.out _ _ (HS.out _ (HLX.out.call hd)) (fun hHeld5=>?_)
    clear hKq Kq hHeld2
    (try simp only [Act.put,sA,sB,sC])
    generalize (w4.alloc (Obj.cells (cLk E j) 32))=v5 at hd tg1 tg2 bL hHeld5⊢
    refine wpAnyH_ready (rs:=[6]) (by kernel_rfl) (by simp) ?_
    refine AllReadyH.cons rfl (fun Kq hKq=>?_) AllReadyH.nil
    go_simp
    have hb:Below v5.heap.size v5 (v5.alloc (Obj.cells #[.string (E.Fr j),.int .i64 1,.int .i64 0,.int .i64 0,.int .i64 0,.int .i64 1,.slice (some ⟨g1,0,none⟩) 2 2,.bool false,.int .i64 0,.string (E.To j),.int .i64 1,.int .i64 0,.int .i64 0,.int .i64 0,.int .i64 1,.slice (some ⟨g2,0,none⟩) 2 2,.bool false,.int .i64 0] 30)):=(bR _ _).alloc (nl _) _
    have hs6:w2.heap.size≤v5.heap.size:=hd.size
    have hd:=zA1 hd hb
    have tg1:=tg1.below (nl _) hb
    have tg2:=tg2.below (nl _) hb
    have bL:=bL.call hb
    have bN:Blk (v5.alloc (Obj.cells #[.string (E.Fr j),.int .i64 1,.int .i64 0,.int .i64 0,.int .i64 0,.int .i64 1,.slice (some ⟨g1,0,none⟩) 2 2,.bool false,.int .i64 0,.string (E.To j),.int .i64 1,.int .i64 0,.int .i64 0,.int .i64 0,.int .i64 1,.slice (some ⟨g2,0,none⟩) 2 2,.bool false,.int .i64 0] 30)) v5.heap.size 30 #[.string (E.Fr j),.int .i64 1,.int .i64 0,.int .i64 0,.int .i64 0,.int .i64 1,.slice (some ⟨g1,0,none⟩) 2 2,.bool false,.int .i64 0,.string (E.To j),.int .i64 1,.int .i64 0,.int .i64 0,.int .i64 0,.int .i64 1,.slice (some ⟨g2,0,none⟩) 2 2,.bool false,.int .i64 0]:=Blk.new _ _ _
    clear hb
    refine hKq.out _ _ (HS.out _ (HLX.out.call hd)) (fun hHeld6=>?_)
    clear hKq Kq hHeld5
    (try simp only [Act.put,sA,sB,sC])
    generalize (v5.alloc (Obj.cells #[.string (E.Fr j),.int .i64 1,.int .i64 0,.int .i64 0,.int .i64 0,.int .i64 1,.slice (some ⟨g1,0,none⟩) 2 2,.bool false,.int .i64 0,.string (E.To j),.int .i64 1,.int .i64 0,.int .i64 0,.int .i64 0,.int .i64 1,.slice (some ⟨g2,0,none⟩) 2 2,.bool false,.int .i64 0] 30))=v6 at hd tg1 tg2 bL bN hHeld6⊢
    refine tkD 9 (some 12) ?_
    have HR:=HRX.out.call hd
    obtain ⟨r0,r1⟩:=blk2 HR
    have f0:=HR.frozen 0
    have f1:=HR.frozen 1
    refine wpAnyH_ready (rs:=[10]) (by kernel_rfl) (by simp) ?_
    refine AllReadyH.cons rfl (fun Kq hKq=>?_) AllReadyH.nil
    go_simp
    have hlt:=HRX.out.lt
    have HE:Blk ((v6.setCell ⟨w.heap.size+1,0,none⟩ (.slice (some ⟨v5.heap.size,0,none⟩) 2 2)).setCell ⟨w.heap.size+1,1,none⟩ (.slice (some ⟨w4.heap.size,0,none⟩) 1 1)) w.heap.size 32 (cLk E j):=((HLX.out.call hd).far (p:=⟨w.heap.size+1,0,none⟩) (by show w.heap.size≠w.heap.size+1;omega) _).far (p:=⟨w.heap.size+1,1,none⟩) (by show w.heap.size≠w.heap.size+1;omega) _
    refine hKq.out _ _ (HS.out _ HE) (fun hHeldZ=>?_)
    clear hKq Kq hHeld6
    (try simp only [Act.put,sA,sB,sC])
    refine wpAnyH_done (by kernel_rfl) ?_ _
    have HZ:=(HR.set_ 0 (.slice (some ⟨v5.heap.size,0,none⟩) 2 2)).set_ 1 (.slice (some ⟨w4.heap.size,0,none⟩) 1 1)
    obtain ⟨z0,z1⟩:=blk2 HZ
    go_wp2_with fail
    have HBE:Below w.heap.size w ((v6.setCell ⟨w.heap.size+1,0,none⟩ (.slice (some ⟨v5.heap.size,0,none⟩) 2 2)).setCell ⟨w.heap.size+1,1,none⟩ (.slice (some ⟨w4.heap.size,0,none⟩) 1 1)):=((zA1 HAL.out hd).setCell (p:=⟨w.heap.size+1,0,none⟩) (by show w.heap.size≤w.heap.size+1;omega) _).setCell (p:=⟨w.heap.size+1,1,none⟩) (by show w.heap.size≤w.heap.size+1;omega) _
    refine bodyPost_ret (v:=.agg #[.slice (some ⟨v5.heap.size,0,none⟩) 2 2,.slice (some ⟨w4.heap.size,0,none⟩) 1 1]) (by simp [results,Tryz.results97,go_sem,z0,z1]) rfl ⟨v5.heap.size,w4.heap.size,g1,g2,rfl,enK_in ?_ ?_ ?_,lk1K_in ?_ (HT.out.below (nl _) HBE),HBE⟩
    ·exact (bN.far (p:=⟨w.heap.size+1,0,none⟩) (by show v5.heap.size≠w.heap.size+1;omega) _).far (p:=⟨w.heap.size+1,1,none⟩) (by show v5.heap.size≠w.heap.size+1;omega) _
    ·exact (tg1.set (fun b off e=>by have h1:=Option.some.inj e;have h3:g1=b:=congrArg (·.block) h1;omega) _).set (fun b off e=>by have h1:=Option.some.inj e;have h3:g1=b:=congrArg (·.block) h1;omega) _
    ·exact (tg2.set (fun b off e=>by have h1:=Option.some.inj e;have h3:g2=b:=congrArg (·.block) h1;omega) _).set (fun b off e=>by have h1:=Option.some.inj e;have h3:g2=b:=congrArg (·.block) h1;omega) _
    ·exact (bL.far (p:=⟨w.heap.size+1,0,none⟩) (by show w4.heap.size≠w.heap.size+1;omega) _).far (p:=⟨w.heap.size+1,1,none⟩) (by show w4.heap.size≠w.heap.size+1;omega) _
  ·go_simp
   have hb:Below w3.heap.size w3 (w3.alloc (Obj.cells (cLk E j) 32)):=(bR _ _).alloc (nl _) _
   have hs8:w2.heap.size≤w3.heap.size:=hd.size
   have hd:=zA1 hd hb
   have tg1:=tg1.below (nl _) hb
   have bL:Blk (w3.alloc (Obj.cells (cLk E j) 32)) w3.heap.size 32 (cLk E j):=Blk.new w3 _ _
   clear hb
   refine hKq.out _ _ (HS.out _ (HLX.out.call hd)) (fun hHeld7=>?_)
   clear hKq Kq hHeld1
   (try simp only [Act.put,sA,sB,sC])
   generalize (w3.alloc (Obj.cells (cLk E j) 32))=v7 at hd tg1 bL hHeld7⊢
   refine wpAnyH_ready (rs:=[5]) (by kernel_rfl) (by simp) ?_
   refine AllReadyH.cons rfl (fun Kq hKq=>?_) AllReadyH.nil
   go_simp
   go_at_call 92
   with_reducible refine (sc_end (E.To j) _).mono ?_
   rintro e w4 ⟨g2,rfl,tg2,hgg2,hb⟩
   have hlg2:w2.heap.size≤g2:=nT hd.size hgg2
   have hd:=zA1 hd hb
   have tg1:=tg1.below (nl _) hb
   have bL:=bL.call hb
   clear hb
   go_wp2_with fail
   refine hKq.out _ _ (HS.out _ (HLX.out.call hd)) (fun hHeld8=>?_)
   clear hKq Kq hHeld7
   (try simp only [Act.put,sA,sB,sC])
   refine wpAnyH_ready (rs:=[6]) (by kernel_rfl) (by simp) ?_
   refine AllReadyH.cons rfl (fun Kq hKq=>?_) AllReadyH.nil
   go_simp
   have hb:Below w4.heap.size w4 (w4.alloc (Obj.cells #[.string (E.Fr j),.int .i64 1,.int .i64 0,.int .i64 0,.int .i64 0,.int .i64 1,.slice (some ⟨g1,0,none⟩) 2 2,.bool false,.int .i64 0,.string (E.To j),.int .i64 1,.int .i64 0,.int .i64 0,.int .i64 0,.int .i64 1,.slice (some ⟨g2,0,none⟩) 2 2,.bool false,.int .i64 0] 30)):=(bR _ _).alloc (nl _) _
   have hs6:w2.heap.size≤w4.heap.size:=hd.size
   have hd:=zA1 hd hb
   have tg1:=tg1.below (nl _) hb
   have tg2:=tg2.below (nl _) hb
   have bL:=bL.call hb
   have bN:Blk (w4.alloc (Obj.cells #[.string (E.Fr j),.int .i64 1,.int .i64 0,.int .i64 0,.int .i64 0,.int .i64 1,.slice (some ⟨g1,0,none⟩) 2 2,.bool false,.int .i64 0,.string (E.To j),.int .i64 1,.int .i64 0,.int .i64 0,.int .i64 0,.int .i64 1,.slice (some ⟨g2,0,none⟩) 2 2,.bool false,.int .i64 0] 30)) w4.heap.size 30 #[.string (E.Fr j),.int .i64 1,.int .i64 0,.int .i64 0,.int .i64 0,.int .i64 1,.slice (some ⟨g1,0,none⟩) 2 2,.bool false,.int .i64 0,.string (E.To j),.int .i64 1,.int .i64 0,.int .i64 0,.int .i64 0,.int .i64 1,.slice (some ⟨g2,0,none⟩) 2 2,.bool false,.int .i64 0]:=Blk.new _ _ _
   clear hb
   refine hKq.out _ _ (HS.out _ (HLX.out.call hd)) (fun hHeld9=>?_)
   clear hKq Kq hHeld8
   (try simp only [Act.put,sA,sB,sC])
   generalize (w4.alloc (Obj.cells #[.string (E.Fr j),.int .i64 1,.int .i64 0,.int .i64 0,.int .i64 0,.int .i64 1,.slice (some ⟨g1,0,none⟩) 2 2,.bool false,.int .i64 0,.string (E.To j),.int .i64 1,.int .i64 0,.int .i64 0,.int .i64 0,.int .i64 1,.slice (some ⟨g2,0,none⟩) 2 2,.bool false,.int .i64 0] 30))=v9 at hd tg1 bL tg2 bN hHeld9⊢
   refine tkD 9 (some 12) ?_
   have HR:=HRX.out.call hd
   obtain ⟨r0,r1⟩:=blk2 HR
   have f0:=HR.frozen 0
   have f1:=HR.frozen 1
   refine wpAnyH_ready (rs:=[10]) (by kernel_rfl) (by simp) ?_
   refine AllReadyH.cons rfl (fun Kq hKq=>?_) AllReadyH.nil
   go_simp
   have hlt:=HRX.out.lt
   have HE:Blk ((v9.setCell ⟨w.heap.size+1,0,none⟩ (.slice (some ⟨w4.heap.size,0,none⟩) 2 2)).setCell ⟨w.heap.size+1,1,none⟩ (.slice (some ⟨w3.heap.size,0,none⟩) 1 1)) w.heap.size 32 (cLk E j):=((HLX.out.call hd).far (p:=⟨w.heap.size+1,0,none⟩) (by show w.heap.size≠w.heap.size+1;omega) _).far (p:=⟨w.heap.size+1,1,none⟩) (by show w.heap.size≠w.heap.size+1;omega) _
   refine hKq.out _ _ (HS.out _ HE) (fun hHeldZ=>?_)
   clear hKq Kq hHeld9
   (try simp only [Act.put,sA,sB,sC])
   refine wpAnyH_done (by kernel_rfl) ?_ _
   have HZ:=(HR.set_ 0 (.slice (some ⟨w4.heap.size,0,none⟩) 2 2)).set_ 1 (.slice (some ⟨w3.heap.size,0,none⟩) 1 1)
   obtain ⟨z0,z1⟩:=blk2 HZ
   go_wp2_with fail
   have HBE:Below w.heap.size w ((v9.setCell ⟨w.heap.size+1,0,none⟩ (.slice (some ⟨w4.heap.size,0,none⟩) 2 2)).setCell ⟨w.heap.size+1,1,none⟩ (.slice (some ⟨w3.heap.size,0,none⟩) 1 1)):=((zA1 HAL.out hd).setCell (p:=⟨w.heap.size+1,0,none⟩) (by show w.heap.size≤w.heap.size+1;omega) _).setCell (p:=⟨w.heap.size+1,1,none⟩) (by show w.heap.size≤w.heap.size+1;omega) _
   refine bodyPost_ret (v:=.agg #[.slice (some ⟨w4.heap.size,0,none⟩) 2 2,.slice (some ⟨w3.heap.size,0,none⟩) 1 1]) (by simp [results,Tryz.results97,go_sem,z0,z1]) rfl ⟨w4.heap.size,w3.heap.size,g1,g2,rfl,enK_in ?_ ?_ ?_,lk1K_in ?_ (HT.out.below (nl _) HBE),HBE⟩
   ·exact (bN.far (p:=⟨w.heap.size+1,0,none⟩) (by show w4.heap.size≠w.heap.size+1;omega) _).far (p:=⟨w.heap.size+1,1,none⟩) (by show w4.heap.size≠w.heap.size+1;omega) _
   ·exact (tg1.set (fun b off e=>by have h1:=Option.some.inj e;have h3:g1=b:=congrArg (·.block) h1;omega) _).set (fun b off e=>by have h1:=Option.some.inj e;have h3:g1=b:=congrArg (·.block) h1;omega) _
   ·exact (tg2.set (fun b off e=>by have h1:=Option.some.inj e;have h3:g2=b:=congrArg (·.block) h1;omega) _).set (fun b off e=>by have h1:=Option.some.inj e;have h3:g2=b:=congrArg (·.block) h1;omega) _
   ·exact (bL.far (p:=⟨w.heap.size+1,0,none⟩) (by show w3.heap.size≠w.heap.size+1;omega) _).far (p:=⟨w.heap.size+1,1,none⟩) (by show w3.heap.size≠w.heap.size+1;omega) _
 ·go_simp
  have hb:Below w2.drew.heap.size w2.drew ((w2.alloc (Obj.cells (cLk E j) 32)).drew):=show Below w2.drew.heap.size w2.drew (w2.drew.alloc (Obj.cells (cLk E j) 32)) from (bR _ _).alloc (nl _) _
  have hs8:w2.heap.size≤w2.heap.size:=hd.size
  have hd:=zA1 hd hb
  have bL:Blk ((w2.alloc (Obj.cells (cLk E j) 32)).drew) w2.heap.size 32 (cLk E j):=Blk.new w2.drew _ _
  clear hb
  refine hKq.out _ _ (HS.out _ (HLX.out.call hd)) (fun hHeld10=>?_)
  clear hKq Kq hHeld
  (try simp only [Act.put,sA,sB,sC])
  generalize (w2.alloc (Obj.cells (cLk E j) 32)).drew=v10 at hd bL hHeld10⊢
  refine wpAnyH_ready (rs:=[2]) (by kernel_rfl) (by simp) ?_
  refine AllReadyH.cons rfl (fun Kq hKq=>?_) AllReadyH.nil
  go_simp
  go_at_call 92
  with_reducible refine (sc_end (E.Fr j) _).mono ?_
  rintro e w3 ⟨g1,rfl,tg1,hgg1,hb⟩
  have hlg1:w2.heap.size≤g1:=nT hd.size hgg1
  have hd:=zA1 hd hb
  have bL:=bL.call hb
  clear hb
  go_wp2_with fail
  refine hKq.out _ _ (HS.out _ (HLX.out.call hd)) (fun hHeld11=>?_)
  clear hKq Kq hHeld10
  (try simp only [Act.put,sA,sB,sC])
  refine wpAnyH_ready (rs:=[5]) (by kernel_rfl) (by simp) ?_
  refine AllReadyH.cons rfl (fun Kq hKq=>?_) AllReadyH.nil
  go_simp
  go_at_call 92
  with_reducible refine (sc_end (E.To j) _).mono ?_
  rintro e w4 ⟨g2,rfl,tg2,hgg2,hb⟩
  have hlg2:w2.heap.size≤g2:=nT hd.size hgg2
  have hd:=zA1 hd hb
  have tg1:=tg1.below (nl _) hb
  have bL:=bL.call hb
  clear hb
  go_wp2_with fail
  refine hKq.out _ _ (HS.out _ (HLX.out.call hd)) (fun hHeld12=>?_)
  clear hKq Kq hHeld11
  (try simp only [Act.put,sA,sB,sC])
  refine wpAnyH_ready (rs:=[6]) (by kernel_rfl) (by simp) ?_
  refine AllReadyH.cons rfl (fun Kq hKq=>?_) AllReadyH.nil
  go_simp
  have hb:Below w4.heap.size w4 (w4.alloc (Obj.cells #[.string (E.Fr j),.int .i64 1,.int .i64 0,.int .i64 0,.int .i64 0,.int .i64 1,.slice (some ⟨g1,0,none⟩) 2 2,.bool false,.int .i64 0,.string (E.To j),.int .i64 1,.int .i64 0,.int .i64 0,.int .i64 0,.int .i64 1,.slice (some ⟨g2,0,none⟩) 2 2,.bool false,.int .i64 0] 30)):=(bR _ _).alloc (nl _) _
  have hs6:w2.heap.size≤w4.heap.size:=hd.size
  have hd:=zA1 hd hb
  have tg1:=tg1.below (nl _) hb
  have tg2:=tg2.below (nl _) hb
  have bL:=bL.call hb
  have bN:Blk (w4.alloc (Obj.cells #[.string (E.Fr j),.int .i64 1,.int .i64 0,.int .i64 0,.int .i64 0,.int .i64 1,.slice (some ⟨g1,0,none⟩) 2 2,.bool false,.int .i64 0,.string (E.To j),.int .i64 1,.int .i64 0,.int .i64 0,.int .i64 0,.int .i64 1,.slice (some ⟨g2,0,none⟩) 2 2,.bool false,.int .i64 0] 30)) w4.heap.size 30 #[.string (E.Fr j),.int .i64 1,.int .i64 0,.int .i64 0,.int .i64 0,.int .i64 1,.slice (some ⟨g1,0,none⟩) 2 2,.bool false,.int .i64 0,.string (E.To j),.int .i64 1,.int .i64 0,.int .i64 0,.int .i64 0,.int .i64 1,.slice (some ⟨g2,0,none⟩) 2 2,.bool false,.int .i64 0]:=Blk.new _ _ _
  clear hb
  refine hKq.out _ _ (HS.out _ (HLX.out.call hd)) (fun hHeld13=>?_)
  clear hKq Kq hHeld12
  (try simp only [Act.put,sA,sB,sC])
  generalize (w4.alloc (Obj.cells #[.string (E.Fr j),.int .i64 1,.int .i64 0,.int .i64 0,.int .i64 0,.int .i64 1,.slice (some ⟨g1,0,none⟩) 2 2,.bool false,.int .i64 0,.string (E.To j),.int .i64 1,.int .i64 0,.int .i64 0,.int .i64 0,.int .i64 1,.slice (some ⟨g2,0,none⟩) 2 2,.bool false,.int .i64 0] 30))=v13 at hd bL tg1 tg2 bN hHeld13⊢
  refine tkD 9 (some 12) ?_
  have HR:=HRX.out.call hd
  obtain ⟨r0,r1⟩:=blk2 HR
  have f0:=HR.frozen 0
  have f1:=HR.frozen 1
  refine wpAnyH_ready (rs:=[10]) (by kernel_rfl) (by simp) ?_
  refine AllReadyH.cons rfl (fun Kq hKq=>?_) AllReadyH.nil
  go_simp
  have hlt:=HRX.out.lt
  have HE:Blk ((v13.setCell ⟨w.heap.size+1,0,none⟩ (.slice (some ⟨w4.heap.size,0,none⟩) 2 2)).setCell ⟨w.heap.size+1,1,none⟩ (.slice (some ⟨w2.heap.size,0,none⟩) 1 1)) w.heap.size 32 (cLk E j):=((HLX.out.call hd).far (p:=⟨w.heap.size+1,0,none⟩) (by show w.heap.size≠w.heap.size+1;omega) _).far (p:=⟨w.heap.size+1,1,none⟩) (by show w.heap.size≠w.heap.size+1;omega) _
  refine hKq.out _ _ (HS.out _ HE) (fun hHeldZ=>?_)
  clear hKq Kq hHeld13
  (try simp only [Act.put,sA,sB,sC])
  refine wpAnyH_done (by kernel_rfl) ?_ _
  have HZ:=(HR.set_ 0 (.slice (some ⟨w4.heap.size,0,none⟩) 2 2)).set_ 1 (.slice (some ⟨w2.heap.size,0,none⟩) 1 1)
  obtain ⟨z0,z1⟩:=blk2 HZ
  go_wp2_with fail
  have HBE:Below w.heap.size w ((v13.setCell ⟨w.heap.size+1,0,none⟩ (.slice (some ⟨w4.heap.size,0,none⟩) 2 2)).setCell ⟨w.heap.size+1,1,none⟩ (.slice (some ⟨w2.heap.size,0,none⟩) 1 1)):=((zA1 HAL.out hd).setCell (p:=⟨w.heap.size+1,0,none⟩) (by show w.heap.size≤w.heap.size+1;omega) _).setCell (p:=⟨w.heap.size+1,1,none⟩) (by show w.heap.size≤w.heap.size+1;omega) _
  refine bodyPost_ret (v:=.agg #[.slice (some ⟨w4.heap.size,0,none⟩) 2 2,.slice (some ⟨w2.heap.size,0,none⟩) 1 1]) (by simp [results,Tryz.results97,go_sem,z0,z1]) rfl ⟨w4.heap.size,w2.heap.size,g1,g2,rfl,enK_in ?_ ?_ ?_,lk1K_in ?_ (HT.out.below (nl _) HBE),HBE⟩
  ·exact (bN.far (p:=⟨w.heap.size+1,0,none⟩) (by show w4.heap.size≠w.heap.size+1;omega) _).far (p:=⟨w.heap.size+1,1,none⟩) (by show w4.heap.size≠w.heap.size+1;omega) _
  ·exact (tg1.set (fun b off e=>by have h1:=Option.some.inj e;have h3:g1=b:=congrArg (·.block) h1;omega) _).set (fun b off e=>by have h1:=Option.some.inj e;have h3:g1=b:=congrArg (·.block) h1;omega) _
  ·exact (tg2.set (fun b off e=>by have h1:=Option.some.inj e;have h3:g2=b:=congrArg (·.block) h1;omega) _).set (fun b off e=>by have h1:=Option.some.inj e;have h3:g2=b:=congrArg (·.block) h1;omega) _
  ·exact (bL.far (p:=⟨w.heap.size+1,0,none⟩) (by show w2.heap.size≠w.heap.size+1;omega) _).far (p:=⟨w.heap.size+1,1,none⟩) (by show w2.heap.size≠w.heap.size+1;omega) _
end Go.Proofs.YtchakniaoeodmaaGreatDoor

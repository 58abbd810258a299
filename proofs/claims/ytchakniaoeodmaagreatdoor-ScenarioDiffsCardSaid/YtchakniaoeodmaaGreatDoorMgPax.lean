/- Merged texts of these proofs: SrZh, ScRd, Csf, ScPa, SpA. -/
import Derived.Deep.MidRow
import Derived.Test.YtchakniaoeodmaaGreatDoorMgITx
namespace Go.Proofs.YtchakniaoeodmaaGreatDoor
open Go.RowKit
set_option linter.unusedVariables false
set_option linter.unusedSimpArgs false
theorem zW1 {P:Program} {ops:Array Oper} {o:Oper} {a:Act} {w:World} {K:Act→World→Prop} {Q:Exit→Act→World→Prop} {E:Prop} (hg:o.guard=none) (hd:o.dst=none) (ty:TypeId) (x y:Operand) (ho:o.op= .store ty x y) (g:Nat) (cells cur:Array Value) (t:TypeId) (hx:a.eval x= .pointer (some ⟨g,0,none⟩)) (hy:a.eval y= .agg cells)
 (hb:Blk w g t cur) (hi:(P.info? ty).map (·.size)=some cells.size) (hs:cur.size=cells.size) (h1:cells.all (·.oneCell')=true) (h:K a (w.setRow g cells)):if Region.wanted o (yielded ops a.tmps)=true then Oper.wp P o a w K Q else E:=by
 have hw:Region.wanted o (yielded ops a.tmps)=true:=by simp [Region.wanted,hg]
 rw [if_pos hw]
 unfold Oper.wp execOp
 simp only [ho,hx,hy,Instr.storeAt,Instr.sureAddr,Sem.run_bind,Sem.run_pure,Result.andThen_ok,run_storeVar_row w g t ty cur cells hb hi hs h1]
 show K (a.put o.dst undef) _
 rw [hd]
 exact h
def dpN (s:ByteArray):Nds:={ zDn with Nm:=fun _=>s }
set_option maxRecDepth 100000 in
set_option maxHeartbeats 8000000 in
theorem sc_read3 (t rest s:ByteArray) (V:Bool) (w:World) (hs:t.size≤8388608) (h1:cutA t 32=⟨#[100,114,111,112]⟩) (h2:cutB t 32=rest) (h3:cutA rest 32=⟨#[110,111,100,101]⟩) (h4:cutB rest 32=s) (hV:zD1 s.data.toList=V):
 Calls Tryz.prog 47 #[.string t] w fun e w'=>e= .returned (.tuple #[.agg (cNm 3 s),.bool V])∧Below w.heap.size w w':=by
 have hr:rest.size≤8388608:=by rw [←h2];exact nT (cut_size t 32).2 hs
 have hss:s.size≤maxLen:=by
  have:=(cut_size rest 32).2
  rw [h4] at this
  unfold maxLen;omega
 have SC0:=fun w=>tcutc t hs 32 w
 rw [h1,h2] at SC0
 have SC:=LH SC0
 have SD0:=fun w=>tcutc rest hr 32 w
 rw [h3,h4] at SD0
 have SD:=LH SD0
 have SR:Hid (∀w',Calls Tryz.prog 51 #[.agg (cNm 3 s)] w' fun e w''=>e= .returned (.bool V)∧Below w'.heap.size w' w''):=fun w'=>sc_right3 (i:=0) (j:=0) (C:=dpN s) (E:=zKl) w' V hss hV
 obtain ⟨F1,hF1⟩:∃F1,cutF t 32=F1:=⟨_,rfl⟩
 obtain ⟨F2,hF2⟩:∃F2,cutF rest 32=F2:=⟨_,rfl⟩
 rw [hF1] at SC
 rw [hF2] at SD
 clear hs h1 h2 h3 h4 hV hr hss SC0 SD0 hF1 hF2
 have HAL:Hid (Below w.heap.size w (w.alloc (Obj.cells cZc 34))):=(bR _ w).alloc (nl _) _
 have HRX:Hid (Blk (w.alloc (Obj.cells cZc 34)) w.heap.size 34 cZc):=Blk.new _ _ _
 go_enter Tryz.func47,Tryz.ntmps47
 go_upto_region 1 with fail
 generalize w.alloc (Obj.cells cZc 34)=w1 at HAL HRX⊢
 go_upto_region 3 with (first
  |(go_at_call 87
    with_reducible refine (SC.out _).mono ?_
    rintro e w2 ⟨rfl,hb2⟩
    have HAL:=LH (zA1 HAL.out hb2)
    have HRX:=LH (HRX.out.call hb2)
    clear hb2)
  |(go_at_call 87
    with_reducible refine (SD.out _).mono ?_
    rintro e w3 ⟨rfl,hb3⟩
    have HAL:=LH (zA1 HAL.out hb3)
    have HRX:=LH (HRX.out.call hb3)
    clear hb3))
 go_upto_region 5 with fail
 have HCX:Hid (Blk (w3.alloc (Obj.cells cZc 34)) w3.heap.size 34 cZc):=Blk.new _ _ _
 have HRX4:=LH (HRX.out.alloc (Obj.cells cZc 34))
 have HAL4:=LH (HAL.out.alloc HAL.out.size (Obj.cells cZc 34))
 have HNE:Hid (w.heap.size≠w3.heap.size):=by have:=HRX.out.lt;show _≠_;omega
 have HLE:Hid (w.heap.size≤w3.heap.size):=HAL.out.size
 clear HAL HRX
 generalize w3.alloc (Obj.cells cZc 34)=w4 at HCX HRX4 HAL4⊢
 generalize w3.heap.size=G at HCX HNE HLE⊢
 go_upto_region 6 with (first
  |(refine wpList_store_row rfl 34 (.tmp 10) (.tmp 40) rfl G (cNm 3 s) rfl rfl _ _ HCX.out (by kernel_rfl) rfl (by kernel_rfl) ?_))
 have HCX5:=LH (HCX.out.setRow (cs':=(cNm 3 s)))
 have HRX5:=LH (HRX4.out.farRow HNE.out (cNm 3 s))
 have HAL5:=LH (zB4 (cs':=(cNm 3 s)) HAL4.out HCX.out HLE.out)
 clear HCX HRX4 HAL4
 generalize w4.setRow G (cNm 3 s)=w5 at HCX5 HRX5 HAL5⊢
 have HS:Hid (∀w',Below w5.heap.size w5 w'→w'.rangeAt G 0 [.int .i64 3,.string s,.int .i64 0,.int .i64 0,.int .i64 0,.int .i64 0,.int .i64 0,.slice none 0 0,.bool false,.int .i64 0,.string ⟨#[]⟩,.string ⟨#[]⟩,.string ⟨#[]⟩,.int .i64 0,.int .i64 0,.int .i64 0,.int .i64 0,.string ⟨#[]⟩,.int .i64 0,.int .i64 0,.slice none 0 0]):=fun w' hb=>(HCX5.out.call hb).cells
 have HST:Hid (∀w',Below w5.heap.size w5 w'→(w'.setRow w.heap.size (cNm 3 s)).rangeAt G 0 [.int .i64 3,.string s,.int .i64 0,.int .i64 0,.int .i64 0,.int .i64 0,.int .i64 0,.slice none 0 0,.bool false,.int .i64 0,.string ⟨#[]⟩,.string ⟨#[]⟩,.string ⟨#[]⟩,.int .i64 0,.int .i64 0,.int .i64 0,.int .i64 0,.string ⟨#[]⟩,.int .i64 0,.int .i64 0,.slice none 0 0]):=fun w' hb=>((HCX5.out.call hb).farRow HNE.out.symm _).cells
 refine wp_region_held_drew (S:=fun w'=>w'.rangeAt G 0 [.int .i64 3,.string s,.int .i64 0,.int .i64 0,.int .i64 0,.int .i64 0,.int .i64 0,.slice none 0 0,.bool false,.int .i64 0,.string ⟨#[]⟩,.string ⟨#[]⟩,.string ⟨#[]⟩,.int .i64 0,.int .i64 0,.int .i64 0,.int .i64 0,.string ⟨#[]⟩,.int .i64 0,.int .i64 0,.slice none 0 0]) (by kernel_rfl) ?_ (fun hHeld=>?_)
 ·exact HS.out _ (bR w5.heap.size w5).drew
 refine tkD 0 (some 41) ?_ (hy:=yieldsIf_load_mid (by rfl) 34 (.tmp 10) rfl G 0 rfl _ _ (fun w h=>h) Tryz.underlying34 rfl (by kernel_rfl))
 refine tkD 1 (some 42) ?_ (hy:=yieldsIf_load_mid (by rfl) 34 (.tmp 10) rfl G 0 rfl _ _ (fun w h=>h) Tryz.underlying34 rfl (by kernel_rfl))
 refine wpAnyH_ready (rs:=[2]) (by kernel_rfl) (by simp) ?_
 refine AllReadyH.cons rfl (fun K hK=>?_) AllReadyH.nil
 go_simp
 go_at_call 51
 with_reducible refine (SR.out _).mono ?_
 rintro e w8 ⟨rfl,hb8⟩
 have hq8:Below w5.heap.size w5 w8:=(bR w5.heap.size w5).drew.trans hb8
 clear hb8
 go_wp2_with fail
 refine hK.out _ _ (HS.out _ hq8) (fun hHeld1=>?_)
 clear hK K hHeld
 (try simp only [Act.put,sA,sB,sC])
 have HRX8:=LH (HRX5.out.call hq8)
 have HAL8:=LH (zA1 HAL5.out hq8)
 refine wpAnyH_ready (rs:=[3]) (by kernel_rfl) (by simp) ?_
 refine AllReadyH.cons rfl (fun K hK=>?_) AllReadyH.nil
 refine zW1 rfl rfl 34 (.tmp 2) (.tmp 41) rfl w.heap.size (cNm 3 s) _ _ rfl rfl HRX8.out (by kernel_rfl) rfl (by kernel_rfl) ?_
 refine hK.out _ _ ?_ (fun hHeld2=>?_)
 ·exact HST.out _ hq8
 clear hK K hHeld1
 refine tkD 4 (some 3) ?_
 refine wpAnyH_done (by kernel_rfl) ?_ _
 clear hHeld2 hq8
 go_wp2_with fail
 refine bodyPost_ret (v:=.tuple #[.agg (cNm 3 s),.bool V]) (zR5 Tryz.results47 _ _ w.heap.size 34 (cNm 3 s) _ (by rfl) HRX8.out.setRow Tryz.underlying34 rfl (by kernel_rfl) _ (by rfl)) rfl ?_
 exact ⟨rfl,zB4 HAL8.out HRX8.out (nl _)⟩
open Go.RowKit Go.Shelf
def endB (s:ByteArray):Bool:=Lib.hasSuffix s.data.toList [10]
def endC (s:ByteArray):ByteArray:=if endB s then s.extract 0 (s.size - 1) else s
theorem end_true {s:ByteArray} (h:endB s=true):s.data.toList=(endC s).data.toList++[10]:=by
 unfold endC
 rw [if_pos h]
 unfold endB Lib.hasSuffix at h
 obtain ⟨a,ha⟩:=List.isSuffixOf_iff_suffix.1 h
 have hsz:s.size=a.length+1:=by rw [zY7,←ha];simp
 rw [ByteArray.data_extract,Array.toList_extract,←ha,hsz]
 simp
theorem end_of {s:ByteArray} {a:List UInt8} (h:s.data.toList=a++[10]):endB s=true∧(endC s).data.toList=a:=by
 have h1:endB s=true:=by
  unfold endB Lib.hasSuffix
  rw [h]
  exact List.isSuffixOf_iff_suffix.2 ⟨a,rfl⟩
 exact ⟨h1,by have:=end_true h1;rw [h] at this;exact (List.append_cancel_right this).symm⟩
set_option maxHeartbeats 1000000 in
theorem tcutsuf0 (s:ByteArray) (hs:s.size≤8388608) (w:World):Calls Tryz.prog 86 #[.string s,.string ⟨#[10]⟩] w fun e w'=>e= .returned (.tuple #[.string (endC s),.bool (endB s)])∧Below w.heap.size w w':=by
 have S:Hid (∀w:World,Calls Tryz.prog 134 #[.string s,.string ⟨#[10]⟩] w fun e w'=>e= .returned (.bool (endB s))∧w'=w):=fun w=>Tryz.stringslite_HasSuffix s ⟨#[10]⟩ w (by omega)
 cases hb:endB s with
 |false=>
  have e:endC s=s:=by unfold endC;rw [hb];simp
  rw [hb] at S
  rw [e]
  clear hb e hs
  go_enter Tryz.func86,Tryz.ntmps86
  go_wp2_with (first |(go_at_call 134;(with_reducible refine (S.out _).mono ?_);rintro e w' ⟨rfl,rfl⟩))
  go_ret2
  exact ⟨rfl,bel⟩
 |true=>
  have h1:1≤s.size:=by
   have:=congrArg List.length (end_true hb)
   rw [←zY7] at this
   simp at this;omega
  obtain ⟨k,hk⟩:∃k,s.size - 1=k:=⟨_,rfl⟩
  have e:endC s=s.extract 0 k:=by unfold endC;rw [hb,←hk];simp
  rw [hb] at S
  rw [e]
  have t1:IntKind.i64.wrap ((s.size:Int) - 1)=(k:Int):=by rw [IntKind.wrap_i64];omega
  have t2:k≤s.size:=by omega
  have t3:(k:Int)≤(s.size:Int):=by omega
  clear hb e hs h1 hk
  go_enter Tryz.func86,Tryz.ntmps86
  go_wp2_with (first |(go_at_call 134;(with_reducible refine (S.out _).mono ?_);rintro e w' ⟨rfl,rfl⟩))
  go_ret2
  exact ⟨by simp [*],bel⟩
theorem tcutsuf (s:ByteArray) (hs:s.size≤8388608) (w:World):Calls Tryz.prog 46 #[.string s,.string ⟨#[10]⟩] w fun e w'=>e= .returned (.tuple #[.string (endC s),.bool (endB s)])∧Below w.heap.size w w':=by
 have S:=LH fun w=>tcutsuf0 s hs w
 clear hs
 go_enter Tryz.func46,Tryz.ntmps46
 go_wp2_with (first |(go_at_call 86;(with_reducible refine (S.out _).mono ?_);rintro e w1 ⟨rfl,hb1⟩;obtain ⟨hc1,hf1⟩:=zA8 hb1;have hz1:=hb1.size;(try simp at hz1);(try simp only [heap_drew,World.heap_drewN] at hz1 hc1 hf1);(try have hs1:=Nat.lt_of_succ_le hz1);(try have hs2:=Nat.lt_of_succ_lt hs1);(try have y0:w.heap.size<w1.heap.size:=by omega);(try have y1:w.heap.size+1<w1.heap.size:=by omega);(try have y2:w.heap.size+2<w1.heap.size:=by omega)))
 go_ret2
 refine ⟨rfl,?_⟩
 exact bel
def RdPost (Q:Chr→Prop) (bad:Prop) (w:World) (e:Ending) (w':World):Prop:=∃(kd:Int) (C:Nds) (E:Lks) (i' j':Nat) (f:Bool),e= .returned (.tuple #[.agg (chA kd C i' E j'),.bool f])∧TabIn w' (C.SA i') (C.SN i') (C.SX i') (C.SY i')∧TabIn w' (E.CA j') (E.CN j') (E.CX j') (E.CY j')∧(C.SN i'≠0→∀b off,C.SA i'=some ⟨b,off,none⟩→w.heap.size≤b)∧(E.CN j'≠0→∀b off,E.CA j'=some ⟨b,off,none⟩→w.heap.size≤b)∧(f=true→Q (chrR kd C i' E j'))∧(f=false→bad)∧Below w.heap.size w w'
structure PaC (w w3 wr:World) (Q:Nat→Chr→Prop) (u:Value) (i:Nat) (M:List Chm):Prop where
 len:M.length=i
 own:wr.ownsRow w3.heap.size 34 21 u M.length (ccs M)
 sep:SepC wr u.ownBlock M
 bel:Below w3.heap.size w3 wr
 ok:∀k p,M[k]?=some p→Q k p.r
 fr:FrC w3.heap.size M
def PcPost (n:Nat) (Q:Nat→Chr→Prop) (bad:Nat→Prop) (w:World) (e:Ending) (w':World):Prop:=
 (∃(l:List Chr) (u:Value),l.length=n∧(∀k c,l[k]?=some c→Q k c)∧e= .returned (.tuple #[u,.agg #[.int .i64 0,.int .i64 0],.int .i64 0])∧ChPost l w u w')∨
 (∃k:Nat,k<n∧bad k∧(∀j,j<k→∃c,Q j c)∧e= .returned (.tuple #[.slice none 0 0,.agg #[.int .i64 ((k+1:Nat):Int),.int .i64 1],.int .i64 7])∧Below w.heap.size w w')
theorem PaC.call {w w3 wr w':World} {Q:Nat→Chr→Prop} {u:Value} {i:Nat} {M:List Chm} (h:PaC w w3 wr Q u i M) (hb:Below wr.heap.size wr w'):PaC w w3 w' Q u i M:=⟨h.len,zC0 h.own hb,h.sep.call hb,zA1 h.bel hb,h.ok,h.fr⟩
theorem PaC.all {w w3 wr:World} {Q:Nat→Chr→Prop} {u:Value} {i:Nat} {M:List Chm} (h:PaC w w3 wr Q u i M):∀j,j<i→∃c,Q j c:=fun j hj=>by
 have hl:=h.len
 exact ⟨_,h.ok j (M.getD j zCm) (by simp [List.getD,show j<M.length by omega])⟩
theorem PaC.good {w w3 wr w':World} {Q:Nat→Chr→Prop} {n:Nat} {M:List Chm} {bad:Nat→Prop} {A:Option Addr} {c:Nat} (h:PaC w w3 wr Q (.slice A n c) n M) (h3:w.heap.size≤w3.heap.size) (hb:Below w.heap.size w w') (ho:w'.ownsRow w3.heap.size 34 21 (.slice A n c) M.length (ccs M)) (ht:TabsC w' M):
 PcPost n Q bad w (.returned (.tuple #[.slice A n c,.agg #[.int .i64 0,.int .i64 0],.int .i64 0])) w':=by
 have hl:(chx M).length=n:=by unfold chx;rw [List.length_map];exact h.len
 refine .inl ⟨chx M,.slice A n c,hl,fun k q hk=>?_,rfl,M,A,c,rfl,by rw [hl],?_,ht,hb⟩
 ·unfold chx at hk
  rw [List.getElem?_map] at hk
  cases hm:M[k]? with
  |none=>rw [hm] at hk;cases hk
  |some p=>rw [hm] at hk;cases hk;exact h.ok k p hm
 ·rw [hl,←h.len]
  rw [h.len] at ho⊢
  exact zB7 ho h3
set_option maxRecDepth 100000 in
set_option maxHeartbeats 8000000 in
theorem sc_parse (s:ByteArray) (n N:Nat) (P:Nat→ByteArray) (Q:Nat→Chr→Prop) (bad:Nat→Prop) (w:World) (hsz:s.size≤262144) (hN:1≤N) (hn:n≤1000)
 (hlast:(P (N - 1)=⟨#[]⟩∧n=N - 1)∨(P (N - 1)≠⟨#[]⟩∧n=N)) (hP:∀k,k<n→(P k).size≤8388608) (hE:∀k,k<n→endB (P k)=false→bad k)
 (SS0:∀w',Below w.heap.size w w'→Calls Tryz.prog 45 #[.string s,.string ⟨#[10]⟩] w' fun e w''=>∃g,e= .returned (.slice (some ⟨g,0,none⟩) N N)∧g<w''.heap.size∧(∀k,k<N→w''.cell? ⟨g,k,none⟩=some (.string (P k)))∧Below w'.heap.size w' w'')
 (SR0:∀k,k<n→∀w',Below w.heap.size w w'→Calls Tryz.prog 47 #[.string (endC (P k))] w' (RdPost (Q k) (bad k) w')):
 Calls Tryz.prog 13 #[.string s] w (PcPost n Q bad w):=by
 have SS:=LH SS0
 have SR:=LH SR0
 have HPz:=LH hP
 have HE:=LH hE
 have HN1:=LH hn
 have HNN:Hid (n≤N):=by show _≤_;rcases hlast with h |h<;> omega
 have t1:decide ((262144:Int)<(s.size:Int))=false:=dF (by omega)
 have t2:decide (262144<s.size)=false:=dF (by omega)
 have t3:decide ((1000:Int)<(n:Int))=false:=dF (by omega)
 have t4:decide (1000<n)=false:=dF (by omega)
 have HAL:Hid (Below w.heap.size w (w.alloc (Obj.cells #[.int .i64 0,.int .i64 0] 37))):=(bR _ w).alloc (nl _) _
 have HRX:Hid (Blk (w.alloc (Obj.cells #[.int .i64 0,.int .i64 0] 37)) w.heap.size 37 #[.int .i64 0,.int .i64 0]):=Blk.new _ _ _
 have HLS:=LH hlast
 have HN2:Hid (N≤1001):=by show _≤_;rcases hlast with h |h<;> omega
 obtain ⟨N1,hN1⟩:∃z,N - 1=z:=⟨_,rfl⟩
 have HLT:Hid (N1<N∧N1=N - 1):=by show _∧_;omega
 have x1:IntKind.i64.wrap ((N:Int) - 1)=(N1:Int):=by have:=HN2.out;rw [IntKind.wrap_i64];omega
 have k0:(0:Int)≤(N1:Int):=by omega
 have k1:(N1:Int)<(N:Int):=by omega
 have k2:(N1:Int)≤(N:Int):=by omega
 have k3:N1≤N:=by omega
 have k4:N1<N:=by omega
 clear SS0 SR0 hP hE hn hsz hlast hN hN1
 go_enter Tryz.func13,Tryz.ntmps13
 go_upto_region 1 with fail
 generalize w.alloc (Obj.cells #[.int .i64 0,.int .i64 0] 37)=w1 at HAL HRX⊢
 go_upto_region 2 with (first
  |(go_at_call 45
    with_reducible refine (SS.out _ HAL.out).mono ?_
    rintro e w2 ⟨g,rfl,hg,hcs,hb2⟩
    have HAL:=LH (zA1 HAL.out hb2)
    have HRX:=LH (HRX.out.call hb2)
    have HGL:=LH hg
    have HCS:=LH hcs
    clear hb2 hg hcs))
 have c0:=HCS.out N1 HLT.out.1
 obtain ⟨B,hB⟩:∃B,((P N1).toList==[])=B:=⟨_,rfl⟩
 have HLB:Hid ((B=true∧n=N1)∨(B=false∧n=N)):=by
  show _∨_
  rcases HLS.out with ⟨h1,h2⟩|⟨h1,h2⟩
  ·rw [HLT.out.2.symm] at h1 h2
   refine .inl ⟨?_,h2⟩
   rw [←hB,h1];simp
  ·rw [HLT.out.2.symm] at h1
   refine .inr ⟨?_,h2⟩
   rw [←hB,beq_eq_false_iff_ne]
   intro q
   exact h1 (zC1 (b:=⟨#[]⟩) (by rw [q];simp))
 go_upto_if 21 with fail
 clear hB
 go_cut [5] from 22 to 27 (fun z wx=>z= .slice (some ⟨g,0,none⟩) n N∧wx=w2)
 case first=>
  rcases HLB.out with ⟨rfl,h2⟩|⟨rfl,h2⟩
  ·subst h2
   go_wp2_with fail
   go_meet
   exact ⟨rfl,rfl⟩
  ·subst h2
   go_wp2_with fail
   go_meet
   exact ⟨rfl,rfl⟩
 case rest=>
 obtain ⟨rfl,hwc⟩:=hcut
 have hwd:=hwc.symm
 subst hwd
 clear c0 k0 k1 k2 k3 k4 x1 HLS HLT HLB
 go_upto_region 7 with fail
 have HM0:Hid (PaC w w2 w2 Q (.slice none 0 0) 0 []):=⟨rfl,World.ownsRow_nil _ _ _ _,SepC.nil _ _,bR _ _,fun k p h=>(by cases h),FrC.nil _⟩
 have H32:Hid (w.heap.size≤w2.heap.size):=HAL.out.size
 have HRL:Hid (w.heap.size<w2.heap.size):=HRX.out.lt
 go_wp2_with fail
 go_loopw [6,38] (fun u v wr=>∃(i:Nat) (M:List Chm) (A:Option Addr) (c:Nat),Hid (i≤n)∧v= .int .i64 i∧u= .slice A i c∧Hid (PaC w w2 wr Q (.slice A i c) i M)) (fun _ v _=>n - (RowKit.intOf v).toNat)
 case atStart=>exact ⟨0,[],none,0,Nat.zero_le _,rfl,rfl,HM0⟩
 case round=>
  clear HM0
  obtain ⟨i,M,A,cp,Hi,rfl,rfl,HM⟩:=hrel
  have HBW:=LH (zA1 HAL.out HM.out.bel)
  have HRW:=LH (HRX.out.call HM.out.bel)
  have r0:=HRW.out.cell 0
  have r1:=HRW.out.cell 1
  simp only [List.getElem?_toArray,List.getElem?_cons_zero,List.getElem?_cons_succ] at r0 r1
  have f0:=HRW.out.frozen 0
  have f1:=HRW.out.frozen 1
  by_cases hlt:i<n
  case neg=>
   have T0:decide ((i:Int)<(n:Int))=false:=by simp<;> omega
   have T0':decide (i<n)=false:=dF hlt
   have e:i=n:=by have:=Hi.out;omega
   subst e
   have HRS:=LH ((HRW.out.set_ 0 (.int .i64 0)).set_ 1 (.int .i64 0))
   obtain ⟨z0,z1⟩:=blk2 HRS.out
   have HBE:Hid (Below w.heap.size w ((wr.setCell ⟨w.heap.size,0,none⟩ (.int .i64 0)).setCell ⟨w.heap.size,1,none⟩ (.int .i64 0))):=(HBW.out.setCell (p:=⟨w.heap.size,0,none⟩) (nl _) _).setCell (p:=⟨w.heap.size,1,none⟩) (nl _) _
   have HOE:Hid (((wr.setCell ⟨w.heap.size,0,none⟩ (.int .i64 0)).setCell ⟨w.heap.size,1,none⟩ (.int .i64 0)).ownsRow w2.heap.size 34 21 (.slice A i cp) M.length (ccs M)):=zO7 HM.out.own HRW.out (by decide)
   have HTE:Hid (TabsC ((wr.setCell ⟨w.heap.size,0,none⟩ (.int .i64 0)).setCell ⟨w.heap.size,1,none⟩ (.int .i64 0)) M):=(HM.out.sep.tabs.set HM.out.fr HRL.out).set HM.out.fr HRL.out
   clear hlt
   go_wp2_with fail
   refine bodyPost_ret (v:=.tuple #[.slice A i cp,.agg #[.int .i64 0,.int .i64 0],.int .i64 0]) (by simp [results,Tryz.results13,go_sem,z0,z1]) rfl ?_
   exact HM.out.good H32.out HBE.out HOE.out HTE.out
  have T0:decide ((i:Int)<(n:Int))=true:=by simp<;> omega
  have T0':decide (i<n)=true:=dU hlt
  obtain ⟨i',hi'⟩:∃z,z=i+1:=⟨_,rfl⟩
  have x0:IntKind.i64.wrap ((i:Int)+1)=(i':Int):=by have:=HN1.out;rw [IntKind.wrap_i64];omega
  have k0:(0:Int)≤(i:Int):=by omega
  have k1:(i:Int)<(n:Int):=by omega
  have HMS:Hid (n - (RowKit.intOf (Value.int .i64 (i':Int))).toNat<n - (RowKit.intOf (Value.int .i64 (i:Int))).toNat):=by show _<_;simp [RowKit.intOf];omega
  have HI':Hid (i'≤n∧i'=i+1):=⟨by omega,hi'⟩
  have HLT:=LH hlt
  have c0:wr.cell? ⟨g,i,none⟩=some (.string (P i)):=(HM.out.bel.cell (p:=⟨g,i,none⟩) HGL.out).trans (HCS.out i (by have:=HNN.out;omega))
  have SCF:=LH fun w'=>tcutsuf (P i) (HPz.out i hlt) w'
  have SRi:=LH (SR.out i hlt)
  have HEi:=LH (HE.out i hlt)
  obtain ⟨E,hE⟩:∃E,endB (P i)=E:=⟨_,rfl⟩
  rw [hE] at SCF HEi
  generalize P i=pi at c0 SCF SRi
  clear hi' hlt hE
  go_upto_region 12 with (first
   |(go_at_call 46
     with_reducible refine (SCF.out _).mono ?_
     rintro e w5 ⟨rfl,hb5⟩
     have HM5:=LH hb5
     clear hb5)
   |(go_at_call 47
     with_reducible refine (SRi.out _ (zA1 HBW.out HM5.out)).mono ?_
     rintro e w6 ⟨kd,C,E',i'',j',f,rfl,ht1,ht2,hf1,hf2,hq,hbad,hb6⟩
     have HM6:=LH (zA1 HM5.out hb6)
     have HT1:=LH ht1
     have HT2:=LH ht2
     have HF1:=LH hf1
     have HF2:=LH hf2
     have HQ:=LH hq
     have HBD:=LH hbad
     have HS56:=LH hb6.size
     unfold chA
     clear hb6 ht1 ht2 hf1 hf2 hq hbad)
   |(refine wpList_store_row rfl 34 (.tmp 11) (.tmp 51) rfl w6.heap.size #[.int .i64 kd,.string (C.Nm i''),.int .i64 (C.Kd i''),.int .i64 (C.Ax i''),.int .i64 (C.Ay i''),.int .i64 (C.Iv i''),.int .i64 (C.Gd i''),.slice (C.SA i'') (C.SN i'') (C.SC i''),.bool (C.Pt i''),.int .i64 (C.Rs i''),.string (E'.Nm j'),.string (E'.Fr j'),.string (E'.To j'),.int .i64 (E'.Kd j'),.int .i64 (E'.Ln j'),.int .i64 (E'.Up j'),.int .i64 (E'.Dn j'),.string (E'.Sc j'),.int .i64 (E'.Wd j'),.int .i64 (E'.Ht j'),.slice (E'.CA j') (E'.CN j') (E'.CC j')] rfl rfl _ _ (Blk.new w6 _ _) (by kernel_rfl) rfl (by kernel_rfl) ?_))
  have hal:Below w6.heap.size w6 ((w6.alloc (Obj.cells cZc 34)).setRow w6.heap.size #[.int .i64 kd,.string (C.Nm i''),.int .i64 (C.Kd i''),.int .i64 (C.Ax i''),.int .i64 (C.Ay i''),.int .i64 (C.Iv i''),.int .i64 (C.Gd i''),.slice (C.SA i'') (C.SN i'') (C.SC i''),.bool (C.Pt i''),.int .i64 (C.Rs i''),.string (E'.Nm j'),.string (E'.Fr j'),.string (E'.To j'),.int .i64 (E'.Kd j'),.int .i64 (E'.Ln j'),.int .i64 (E'.Up j'),.int .i64 (E'.Dn j'),.string (E'.Sc j'),.int .i64 (E'.Wd j'),.int .i64 (E'.Ht j'),.slice (E'.CA j') (E'.CN j') (E'.CC j')]):=zB4 ((bR _ w6).alloc (nl _) _) (Blk.new w6 34 _) (nl _)
  have HX:Hid (Blk ((w6.alloc (Obj.cells cZc 34)).setRow w6.heap.size #[.int .i64 kd,.string (C.Nm i''),.int .i64 (C.Kd i''),.int .i64 (C.Ax i''),.int .i64 (C.Ay i''),.int .i64 (C.Iv i''),.int .i64 (C.Gd i''),.slice (C.SA i'') (C.SN i'') (C.SC i''),.bool (C.Pt i''),.int .i64 (C.Rs i''),.string (E'.Nm j'),.string (E'.Fr j'),.string (E'.To j'),.int .i64 (E'.Kd j'),.int .i64 (E'.Ln j'),.int .i64 (E'.Up j'),.int .i64 (E'.Dn j'),.string (E'.Sc j'),.int .i64 (E'.Wd j'),.int .i64 (E'.Ht j'),.slice (E'.CA j') (E'.CN j') (E'.CC j')]) w6.heap.size 34 #[.int .i64 kd,.string (C.Nm i''),.int .i64 (C.Kd i''),.int .i64 (C.Ax i''),.int .i64 (C.Ay i''),.int .i64 (C.Iv i''),.int .i64 (C.Gd i''),.slice (C.SA i'') (C.SN i'') (C.SC i''),.bool (C.Pt i''),.int .i64 (C.Rs i''),.string (E'.Nm j'),.string (E'.Fr j'),.string (E'.To j'),.int .i64 (E'.Kd j'),.int .i64 (E'.Ln j'),.int .i64 (E'.Up j'),.int .i64 (E'.Dn j'),.string (E'.Sc j'),.int .i64 (E'.Wd j'),.int .i64 (E'.Ht j'),.slice (E'.CA j') (E'.CN j') (E'.CC j')]):=(Blk.new w6 34 _).setRow
  have HW7:=LH (zA1 HM6.out hal)
  have HT1:=LH (HT1.out.below (nl _) hal)
  have HT2:=LH (HT2.out.below (nl _) hal)
  clear hal c0 r0 r1 f0 f1
  generalize (w6.alloc (Obj.cells cZc 34)).setRow w6.heap.size #[.int .i64 kd,.string (C.Nm i''),.int .i64 (C.Kd i''),.int .i64 (C.Ax i''),.int .i64 (C.Ay i''),.int .i64 (C.Iv i''),.int .i64 (C.Gd i''),.slice (C.SA i'') (C.SN i'') (C.SC i''),.bool (C.Pt i''),.int .i64 (C.Rs i''),.string (E'.Nm j'),.string (E'.Fr j'),.string (E'.To j'),.int .i64 (E'.Kd j'),.int .i64 (E'.Ln j'),.int .i64 (E'.Up j'),.int .i64 (E'.Dn j'),.string (E'.Sc j'),.int .i64 (E'.Wd j'),.int .i64 (E'.Ht j'),.slice (E'.CA j') (E'.CN j') (E'.CC j')]=w7 at HX HW7 HT1 HT2⊢
  have HM7:=LH (HM.out.call HW7.out)
  have HR7:=LH (HRW.out.call HW7.out)
  have HB7:=LH (zA1 HBW.out HW7.out)
  have r0:=HR7.out.cell 0
  have r1:=HR7.out.cell 1
  simp only [List.getElem?_toArray,List.getElem?_cons_zero,List.getElem?_cons_succ] at r0 r1
  have f0:=HR7.out.frozen 0
  have f1:=HR7.out.frozen 1
  generalize w6.heap.size=G at HX⊢
  have ERR:E=false∨f=false→Hid (PcPost n Q bad w (.returned (.tuple #[.slice none 0 0,.agg #[.int .i64 (i':Int),.int .i64 1],.int .i64 7])) ((w7.setCell ⟨w.heap.size,0,none⟩ (.int .i64 (i':Int))).setCell ⟨w.heap.size,1,none⟩ (.int .i64 1))):=fun h=>by
   have hb:bad i:=h.elim (fun h=>HEi.out h) (fun h=>HBD.out h)
   refine .inr ⟨i,HLT.out,hb,HM.out.all,by rw [HI'.out.2],?_⟩
   exact (HB7.out.setCell (p:=⟨w.heap.size,0,none⟩) (nl _) _).setCell (p:=⟨w.heap.size,1,none⟩) (nl _) _
  have HRS:=LH ((HR7.out.set_ 0 (.int .i64 (i':Int))).set_ 1 (.int .i64 1))
  obtain ⟨z0,z1⟩:=blk2 HRS.out
  cases E with
  |false=>
   have HER:=ERR (.inl rfl)
   clear ERR HRS
   go_wp2_with fail
   refine bodyPost_ret (v:=.tuple #[.slice none 0 0,.agg #[.int .i64 (i':Int),.int .i64 1],.int .i64 7]) (by simp [results,Tryz.results13,go_sem,z0,z1]) rfl ?_
   exact HER.out
  |true=>
  cases f with
  |false=>
   have HER:=ERR (.inr rfl)
   clear ERR HRS
   go_wp2_with fail
   refine bodyPost_ret (v:=.tuple #[.slice none 0 0,.agg #[.int .i64 (i':Int),.int .i64 1],.int .i64 7]) (by simp [results,Tryz.results13,go_sem,z0,z1]) rfl ?_
   exact HER.out
  |true=>
   clear ERR HRS z0 z1
   have HQQ:=LH (HQ.out rfl)
   have hal8:Below w7.heap.size w7 (w7.alloc (Obj.cells #[.int .i64 kd,.string (C.Nm i''),.int .i64 (C.Kd i''),.int .i64 (C.Ax i''),.int .i64 (C.Ay i''),.int .i64 (C.Iv i''),.int .i64 (C.Gd i''),.slice (C.SA i'') (C.SN i'') (C.SC i''),.bool (C.Pt i''),.int .i64 (C.Rs i''),.string (E'.Nm j'),.string (E'.Fr j'),.string (E'.To j'),.int .i64 (E'.Kd j'),.int .i64 (E'.Ln j'),.int .i64 (E'.Up j'),.int .i64 (E'.Dn j'),.string (E'.Sc j'),.int .i64 (E'.Wd j'),.int .i64 (E'.Ht j'),.slice (E'.CA j') (E'.CN j') (E'.CC j')] 34)):=(bR _ w7).alloc (nl _) _
   have HM8:=LH (HM7.out.call hal8)
   have HX8:Hid (Blk (w7.alloc (Obj.cells #[.int .i64 kd,.string (C.Nm i''),.int .i64 (C.Kd i''),.int .i64 (C.Ax i''),.int .i64 (C.Ay i''),.int .i64 (C.Iv i''),.int .i64 (C.Gd i''),.slice (C.SA i'') (C.SN i'') (C.SC i''),.bool (C.Pt i''),.int .i64 (C.Rs i''),.string (E'.Nm j'),.string (E'.Fr j'),.string (E'.To j'),.int .i64 (E'.Kd j'),.int .i64 (E'.Ln j'),.int .i64 (E'.Up j'),.int .i64 (E'.Dn j'),.string (E'.Sc j'),.int .i64 (E'.Wd j'),.int .i64 (E'.Ht j'),.slice (E'.CA j') (E'.CN j') (E'.CC j')] 34)) w7.heap.size 34 (chm (chD kd C i'' E' j')).toArray):=by rw [zE7];exact Blk.new _ _ _
   have HSP:Hid (SepC (w7.alloc (Obj.cells #[.int .i64 kd,.string (C.Nm i''),.int .i64 (C.Kd i''),.int .i64 (C.Ax i''),.int .i64 (C.Ay i''),.int .i64 (C.Iv i''),.int .i64 (C.Gd i''),.slice (C.SA i'') (C.SN i'') (C.SC i''),.bool (C.Pt i''),.int .i64 (C.Rs i''),.string (E'.Nm j'),.string (E'.Fr j'),.string (E'.To j'),.int .i64 (E'.Kd j'),.int .i64 (E'.Ln j'),.int .i64 (E'.Up j'),.int .i64 (E'.Dn j'),.string (E'.Sc j'),.int .i64 (E'.Wd j'),.int .i64 (E'.Ht j'),.slice (E'.CA j') (E'.CN j') (E'.CC j')] 34)) (Value.slice A i cp).ownBlock [chD kd C i'' E' j']):=by
        have hlt5:∀b,(Value.slice A i cp).ownBlock=some b→b<wr.heap.size:=fun b e=>(HM.out.own.lt b e).2
        have h5:=HM5.out.size
        refine chD_sep (HT1.out.below (nl _) hal8) (HT2.out.below (nl _) hal8) (fun h0 b off e e2=>?_) (fun h0 b off e e2=>?_)
        ·have h1:=HF1.out h0 b off e
         have h2:=hlt5 b e2.symm
         omega
        ·have h1:=HF2.out h0 b off e
         have h2:=hlt5 b e2.symm
         omega
   have HFF:Hid (FrC w2.heap.size [chD kd C i'' E' j']):=by
        have h5:=HM5.out.size
        have h6:=HM.out.bel.size
        refine chD_fr (fun h0 b off e=>?_) (fun h0 b off e=>?_)
        ·have h1:=HF1.out h0 b off e
         omega
        ·have h1:=HF2.out h0 b off e
         omega
   have HML:Hid (M.length=i):=HM.out.len
   have HLL:Hid (M.length≤20000):=by show _≤_;rw [HML.out];have:=HN1.out;have:=HLT.out;omega
   clear hal8
   go_wp2_with (first
        |(refine wpList_load_row rfl 34 (.tmp 11) rfl _ rfl _ _ (0,0) _ HX.out Tryz.underlying34 rfl (by kernel_rfl) ?_)
        |(at_builtin
          refine zB6 rfl (.tmp 62) (.tmp 64) rfl w2.heap.size (.slice A i cp) M rfl HM8.out.own w7.heap.size (chD kd C i'' E' j') rfl HX8.out HLL.out w2 HM8.out.bel (nl _) ?_
          intro A9 c9 w9 ho9 hb9 hg9 hat9
          rw [List.length_append,List.length_singleton,HML.out] at ho9 hat9
          rw [List.length_append,List.length_singleton,HML.out]
          have HO9:=LH ho9
          have HB9:=LH hb9
          have HG9:=LH hg9
          have HA9:=LH hat9
          clear ho9 hb9 hg9 hat9))
   go_roundw
   case rel=>
        refine ⟨i',M++[chD kd C i'' E' j'],A9,c9,HI'.out.1,rfl,by rw [HI'.out.2],?_⟩
        have hl:(M++[chD kd C i'' E' j']).length=i+1:=by rw [List.length_append,List.length_singleton,HML.out]
        refine ⟨by rw [hl,HI'.out.2],?_,?_,HB9.out,fun k p hk=>?_,HM.out.fr.snoc HFF.out⟩
        ·rw [HI'.out.2,hl];exact HO9.out
        ·rw [HI'.out.2];exact HM8.out.sep.app HSP.out HG9.out HA9.out
        ·rcases Nat.lt_or_ge k M.length with h |h
         ·rw [List.getElem?_append_left h] at hk
          exact HM.out.ok k p hk
         ·have hk2:k<(M++[chD kd C i'' E' j']).length:=(List.getElem?_eq_some_iff.1 hk).1
          have:k=M.length:=by rw [List.length_append,List.length_singleton] at hk2;omega
          subst this
          rw [List.getElem?_append_right (nl _),Nat.sub_self] at hk
          have hp:chD kd C i'' E' j'=p:=by simpa using hk
          rw [←hp,chD_r,HML.out]
          exact HQQ.out
   case measure=>exact HMS.out
def baL (l:List UInt8):ByteArray:=⟨l.toArray⟩
theorem zV1 (s:ByteArray):Lib.indexB s ⟨#[10]⟩=Lib.indexByte s.data.toList 10:=Lib.one s ⟨#[10]⟩ rfl
theorem index_at {a b:List UInt8} {c:UInt8} (h:c∉a):Lib.indexByte (a++c::b) c=(a.length:Int):=by
 induction a with
 |nil=>simp [Lib.indexByte]
 |cons x a ih=>
  have hx:¬x=c:=fun e=>h (by simp [e])
  have h1:(x==c)=false:=by simp [hx]
  rw [List.cons_append]
  unfold Lib.indexByte
  rw [h1]
  simp only [Bool.false_eq_true,if_false]
  rw [ih fun e=>h (by simp [e])]
  have:((a.length:Int)== -1)=false:=by simp<;> omega
  rw [this]
  simp
theorem splitB_lines:∀(ls:List (List UInt8)) (N:Nat),(∀l,l∈ls→lineOK l)→ls.length≤N→Lib.splitB ⟨#[10]⟩ 1 N (baL ls.flatten)=ls.map baL++[⟨#[]⟩]:=by
 intro ls
 induction ls with
 |nil=>
  intro N _ _
  have:(baL ([]:List (List UInt8)).flatten)=⟨#[]⟩:=rfl
  rw [this,Lib.splitB_miss _ _ _ _ ((zV1 _).trans rfl)]
  rfl
 |cons l ls ih=>
  intro N h hN
  obtain ⟨a,rfl,ha⟩:=h l (by simp)
  have e1:(baL (((a++[10])::ls).flatten)).data.toList=a++10::ls.flatten:=by
   show ((a++[10])::ls).flatten=_
   simp
  obtain ⟨M,rfl⟩:∃M,N=M+1:=⟨N - 1,by simp at hN;omega⟩
  have hix:Lib.indexB (baL (((a++[10])::ls).flatten)) ⟨#[10]⟩=(a.length:Int):=by
   rw [zV1,e1,index_at ha]
  rw [Lib.splitB_hit _ _ _ _ _ hix]
  have hsz:(baL (((a++[10])::ls).flatten)).size=a.length+1+ls.flatten.length:=by
   rw [zY7,e1,List.length_append,List.length_cons];omega
  have ea:(baL (((a++[10])::ls).flatten)).extract 0 (a.length+1)=baL (a++[10]):=by
   apply ByteArray.ext
   rw [ByteArray.data_extract]
   apply Array.ext'
   rw [Array.toList_extract,e1]
   show _=a++[10]
   simp [List.take_append,List.take_of_length_le]
  have eb:(baL (((a++[10])::ls).flatten)).extract (a.length+(⟨#[10]⟩:ByteArray).size) (baL (((a++[10])::ls).flatten)).size=baL ls.flatten:=by
   apply ByteArray.ext
   rw [ByteArray.data_extract]
   apply Array.ext'
   rw [Array.toList_extract,e1,hsz,show (⟨#[10]⟩:ByteArray).size=1 from rfl]
   show _=ls.flatten
   generalize ls.flatten=F
   simp
  rw [ea,eb,ih M (fun l hl=>h l (by simp [hl])) (by simp at hN;omega)]
  rfl
theorem count_lines:∀ls:List (List UInt8),(∀l,l∈ls→lineOK l)→Lib.countByte ls.flatten 10=ls.length:=by
 intro ls
 induction ls with
 |nil=>intro _;rfl
 |cons l ls ih=>
  intro h
  obtain ⟨a,rfl,ha⟩:=h l (by simp)
  have:=ih fun l hl=>h l (by simp [hl])
  unfold Lib.countByte at*
  rw [List.flatten_cons,List.count_append,List.count_append,this,List.count_eq_zero_of_not_mem ha]
  simp;omega
theorem countB_10 (s:ByteArray):Lib.countB s ⟨#[10]⟩=Lib.countByte s.data.toList 10:=by
 show Lib.count s.data.toList [10]=_
 rw [Lib.count_one]
 rfl
def spaC (ls:List (List UInt8)):Array Value:=(ls.map (fun l=>Value.string (baL l))++[Value.string ⟨#[]⟩]).toArray
theorem lines_le:∀ls:List (List UInt8),(∀l,l∈ls→lineOK l)→ls.length≤ls.flatten.length:=by
 intro ls
 induction ls with
 |nil=>intro _;simp
 |cons l ls ih=>
  intro h
  obtain ⟨a,rfl,ha⟩:=h l (by simp)
  have:=ih fun l hl=>h l (by simp [hl])
  rw [List.flatten_cons,List.length_append,List.length_cons,List.length_append,List.length_cons,List.length_nil]
  omega
set_option maxRecDepth 100000 in
set_option maxHeartbeats 1000000 in
theorem tsplita (ls:List (List UInt8)) (hok:∀l,l∈ls→lineOK l) (hs:ls.flatten.length≤300000) (w:World):Calls Tryz.prog 45 #[.string (baL ls.flatten),.string ⟨#[10]⟩] w fun e w'=>
 e= .returned (.slice (some ⟨w.heap.size,0,none⟩) (ls.length+1) (ls.length+1))∧w'=w.alloc (.cells (spaC ls) 9):=by
 have hsz:(baL ls.flatten).size=ls.flatten.length:=rfl
 have hll:=lines_le ls hok
 have hcnt:Lib.countByte (baL ls.flatten).data.toList 10=ls.length:=count_lines ls hok
 obtain ⟨N,hN⟩:∃N,N=ls.length+1:=⟨_,rfl⟩
 have S:=fun w=>Any.strings_genSplit_core Tryz.lays221 (by kernel_rfl) (baL ls.flatten) ⟨#[10]⟩ 1 (-1) N w (by omega) (by decide) (by decide)
  (fun x c hx=>(Tryz.strings_Index_one x 10 _).mono fun e w' ⟨h1,h2⟩=>⟨by rw [h1,zV1],h2⟩)
  ((Any.strings_Count_one Tryz.lays138 (baL ls.flatten) 10 w).mono fun e w' ⟨h1,h2⟩=>⟨by rw [h1,countB_10],h2⟩) (by decide) (by decide) (by rw [if_pos (by decide),countB_10,hcnt];omega)
 rw [splitB_lines ls (N - 1) hok (by omega)] at S
 have hlen:(ls.map baL++[(⟨#[]⟩:ByteArray)]).length=N:=by simp [hN]
 rw [hlen] at S
 have hcells:Lib.cellsOf (ls.map baL++[(⟨#[]⟩:ByteArray)]) N=spaC ls:=by
  unfold Lib.cellsOf spaC
  rw [hlen,Nat.sub_self]
  simp [List.map_append]
 rw [hcells] at S
 have S:Hid (∀w:World,Calls Tryz.prog 85 #[.string (baL ls.flatten),.string ⟨#[10]⟩,.int .i64 1,.int .i64 (-1)] w fun e w'=>e= .returned (.slice (some ⟨w.heap.size,0,none⟩) N N)∧w'=w.alloc (.cells (spaC ls) 9)):=S
 rw [←hN]
 generalize baL ls.flatten=s at S
 generalize spaC ls=cs at S
 clear hll hcnt hlen hcells hsz hok hs hN
 go_enter Tryz.func45,Tryz.ntmps45
 go_wp2_with (first |(go_at_call 85;(with_reducible refine (S.out _).mono ?_);rintro e w' ⟨rfl,rfl⟩))
 go_ret
 exact ⟨rfl,rfl⟩
end Go.Proofs.YtchakniaoeodmaaGreatDoor

/- Valid of the reference of networks. -/
import Derived.Test.YtchakniaoeodmaaGreatDoorMgC
import Derived.Test.YtchakniaoeodmaaGreatDoorNetR
import Derived.Test.YtchakniaoeodmaaGreatDoorNetU
namespace Go.Proofs.YtchakniaoeodmaaGreatDoor
open Go.RowKit
set_option linter.unusedVariables false
set_option linter.unusedSimpArgs false
theorem tkW {P:Program} {ops:Array Oper} {Q:Exit→Act→World→Prop} {md:Region.Mode} {S:World→Prop} (i:Nat) (d:Option Tmp) {oi:Oper} {v:Value} {fuel:Nat} {listed:Array Bool} {a a':Act} {w:World}
 (h:wpAnyH P md ops Q S fuel (listed.setIfInBounds i true) a' w) (hi:ops[i]?=some oi:=by rfl) (hd:oi.dst=d:=by rfl)
 (hs:(Region.noSelect ops&&Region.free md ops listed i&&(Region.ready md ops listed).contains i)=true:=by kernel_rfl)
 (hQ:∀c a w,Q (.panic c) (a.put d v) w→Q (.panic c) a w:=by exact fun _ _ _ h=>h)
 (hy:YieldsIf P ops S oi v a:=by exact Or.inl ⟨by rfl,by (intro w hSw;(try dsimp only at hSw);go_simp;(try with_reducible rfl))⟩) (hS:S w:=by assumption)
 (ha:a.put d v=a':=by (conv=>lhs;(try simp only [Act.put,sA,sB,sC]))):wpAnyH P md ops Q S (fuel+1) listed a w:=by
 subst hd ha
 simp only [Bool.and_eq_true] at hs
 exact wpAnyH_take hi hs.1.1 hs.1.2 hs.2 hQ hy hS h
theorem tkWN {P:Program} {ops:Array Oper} {Q:Exit→Act→World→Prop} {md:Region.Mode} {S:World→Prop} (i:Nat) (d:Option Tmp) {oi:Oper} {fuel:Nat} {listed:Array Bool} {a a':Act} {w:World}
 (h:wpAnyH P md ops Q S fuel (listed.setIfInBounds i true) a' w) (hi:ops[i]?=some oi:=by rfl) (hd:oi.dst=d:=by rfl)
 (hs:(Region.noSelect ops&&Region.free md ops listed i&&(Region.ready md ops listed).contains i)=true:=by kernel_rfl)
 (hQ:∀c a w,Q (.panic c) (a.put d undef) w→Q (.panic c) a w:=by exact fun _ _ _ h=>h)
 (hy:YieldsIf P ops S oi undef a:=by exact Or.inr ⟨by simp [Region.wanted,yielded,undef],rfl⟩) (hS:S w:=by assumption)
 (ha:a.put d undef=a':=by (conv=>lhs;(try simp only [Act.put,sA,sB,sC]))):wpAnyH P md ops Q S (fuel+1) listed a w:=by
 subst hd ha
 simp only [Bool.and_eq_true] at hs
 exact wpAnyH_take hi hs.1.1 hs.1.2 hs.2 hQ hy hS h
set_option maxRecDepth 100000 in
set_option maxHeartbeats 8000000 in
theorem zD2 (NA LA:Option Addr) (n nc m lc:Nat) (D:Nds) (K:Lks) (hz:NetSz D n K m) (w:World) (hD:NdIn w NA n D) (hK:LkIn w LA m K):
 Calls Tryz.prog 28 #[.agg #[.slice NA n nc,.slice LA m lc]] w fun e w'=>e= .returned (.bool (boolOf (netP D n K m)))∧Below w.heap.size w w':=by
 have HD:=LH hD
 have HK:=LH hK
 have HZ:=LH hz
 have SF:=LH fun s w hD=>zN6 NA LA n nc m lc D s w hz.n2 hD
 have SG:=LH fun s w hK=>zL4 NA LA n nc m lc K s w hz.m2 hK
 obtain ⟨V,hV⟩:∃V,V=boolOf (netP D n K m):=⟨_,rfl⟩
 rw [←hV]
 have HV:=LH hV
 have HB0:Hid (Blk (w.alloc (Obj.cells #[.slice NA n nc,.slice LA m lc] 52)) w.heap.size 52 #[.slice NA n nc,.slice LA m lc]):=Blk.new _ _ _
 have HW0:Hid (Below w.heap.size w (w.alloc (Obj.cells #[.slice NA n nc,.slice LA m lc] 52))):=(bR _ w).alloc (nl _) _
 by_cases h1:n≤300
 case neg=>
  have t1:decide ((300:Int)<(n:Int))=true:=dU (by omega)
  have t1':decide (300<n)=true:=dU (by omega)
  obtain rfl:V=false:=by rw [hV];exact zA0 fun h=>h1 h.1
  clear hV HV hD hK hz h1
  go_enter Tryz.func28,Tryz.ntmps28
  go_wp2_with fail
  go_ret
  exact ⟨rfl,HW0.out⟩
 have t1:decide ((300:Int)<(n:Int))=false:=dF (by omega)
 have t1':decide (300<n)=false:=dF (by omega)
 by_cases h2:m≤400
 case neg=>
  have t2:decide ((400:Int)<(m:Int))=true:=dU (by omega)
  have t2':decide (400<m)=true:=dU (by omega)
  obtain rfl:V=false:=by rw [hV];exact zA0 fun h=>h2 h.2.1
  clear hV HV hD hK hz h1 h2
  go_enter Tryz.func28,Tryz.ntmps28
  go_wp2_with fail
  go_ret
  exact ⟨rfl,HW0.out⟩
 have t2:decide ((400:Int)<(m:Int))=false:=dF (by omega)
 have t2':decide (400<m)=false:=dF (by omega)
 have H1:=LH h1
 have H2:=LH h2
 clear hV hD hK hz h1 h2
 go_enter Tryz.func28,Tryz.ntmps28
 go_wp2_with fail
 generalize w.alloc (Obj.cells #[.slice NA n nc,.slice LA m lc] 52)=w0 at HB0 HW0⊢
 generalize hgw:w.heap.size=gw at HB0⊢
 go_loopw [3] (fun u wr=>∃i:Nat,Hid (i≤n)∧u= .int .i64 i∧Hid (∀j,j<i→ndsP D n j)∧Hid (Below w0.heap.size w0 wr)) (fun u _=>n - (RowKit.intOf u).toNat)
 case atStart=>exact ⟨0,Nat.zero_le _,rfl,fun j hj=>absurd hj (Nat.not_lt_zero _),bR _ _⟩
 case round=>
  obtain ⟨i,Hi,rfl,HG,HW⟩:=hrel
  have HWW:Hid (Below w.heap.size w wr):=HW0.out.trans (HW.out.mono HW0.out.size)
  have HBr:=LH (HB0.out.call HW.out)
  obtain ⟨d0,d1⟩:=blk2 HBr.out
  by_cases hlt:i<n
  ·have T0:decide ((i:Int)<(n:Int))=true:=by simp<;> omega
   have T0':decide (i<n)=true:=dU hlt
   obtain ⟨i',hi'⟩:∃z,z=i+1:=⟨_,rfl⟩
   have x0:IntKind.i64.wrap ((i:Int)+1)=(i':Int):=by have:=H1.out;rw [IntKind.wrap_i64];omega
   have HI':Hid (i'≤n):=by show i'≤n;omega
   have HMS:Hid (n - (RowKit.intOf (Value.int .i64 (i':Int))).toNat<n - (RowKit.intOf (Value.int .i64 (i:Int))).toNat):=by show _<_;simp [RowKit.intOf];omega
   have k0:(0:Int)≤(i:Int):=by omega
   have k1:(i:Int)<(n:Int):=by omega
   obtain ⟨b,off,rfl,hb,hC,htab⟩:=(HD.out.below (nl _) HWW.out).at hlt
   have c0:=hC 0 _ rfl
   have c1:=hC 1 _ rfl
   have c2:=hC 2 _ rfl
   have c3:=hC 3 _ rfl
   have c4:=hC 4 _ rfl
   have c5:=hC 5 _ rfl
   have c6:=hC 6 _ rfl
   have c7:=hC 7 _ rfl
   have c8:=hC 8 _ rfl
   simp only [Nat.add_zero] at c0
   have HTB:=LH htab
   have sn:=fun w ht=>rnode (D.Nm i) (D.Kd i) (D.Ax i) (D.Ay i) (D.Iv i) (D.Gd i) (D.SA i) (D.SN i) (D.SC i) (D.SX i) (D.SY i) (D.Pt i) (D.Rs i) (HZ.out.nm i hlt) w ht
   have HVF:Hid (¬ndsP D n i→V=false):=fun h=>by rw [HV.out];exact zA0 fun g=>h (g.2.2.1 i hlt)
   have HST:Hid (ndsP D n i→∀j,j<i'→ndsP D n j):=fun h j hj=>by
        rcases Nat.lt_or_ge j i with g |g
        ·exact HG.out j g
        ·have:j=i:=by omega
         rw [this];exact h
   have hnp:boolOf (zQ1 (D.Nm i) (D.Kd i) (D.Ax i) (D.Ay i) (D.Iv i) (D.Gd i) (D.SN i) (D.SX i) (D.SY i) (D.Pt i) (D.Rs i))=boolOf (ndP D i):=rfl
   rw [hnp] at sn
   have sf:=fun w hD=>SF.out (D.Nm i) w hD
   clear hi' hlt hC htab hnp
   by_cases g1:ndP D i
   case neg=>
        obtain rfl:V=false:=HVF.out fun h=>g1 h.1
        rw [zA0 g1] at sn
        have SN:=LH sn
        clear sn sf g1
        go_upto_region 6 with fail
        have KS:Hid (∀w',Below wr.heap.size wr w'→w'.cell? ⟨gw,0,none⟩=some (.slice (some ⟨b,off,none⟩) n nc)∧w'.cell? ⟨gw,1,none⟩=some (.slice LA m lc)∧w'.cell? ⟨b,off+i*9,none⟩=some (.string (D.Nm i))∧w'.cell? ⟨b,off+i*9+1,none⟩=some (.int .i64 (D.Kd i))∧w'.cell? ⟨b,off+i*9+2,none⟩=some (.int .i64 (D.Ax i))∧w'.cell? ⟨b,off+i*9+3,none⟩=some (.int .i64 (D.Ay i))∧w'.cell? ⟨b,off+i*9+4,none⟩=some (.int .i64 (D.Iv i))∧w'.cell? ⟨b,off+i*9+5,none⟩=some (.int .i64 (D.Gd i))∧w'.cell? ⟨b,off+i*9+6,none⟩=some (.slice (D.SA i) (D.SN i) (D.SC i))∧w'.cell? ⟨b,off+i*9+7,none⟩=some (.bool (D.Pt i))∧w'.cell? ⟨b,off+i*9+8,none⟩=some (.int .i64 (D.Rs i))):=fun w' h=>⟨(h.cell (p:=⟨gw,0,none⟩) HBr.out.lt).trans d0,(h.cell (p:=⟨gw,1,none⟩) HBr.out.lt).trans d1,(h.cell (p:=⟨b,_,none⟩) hb).trans c0,(h.cell (p:=⟨b,_,none⟩) hb).trans c1,(h.cell (p:=⟨b,_,none⟩) hb).trans c2,(h.cell (p:=⟨b,_,none⟩) hb).trans c3,(h.cell (p:=⟨b,_,none⟩) hb).trans c4,(h.cell (p:=⟨b,_,none⟩) hb).trans c5,(h.cell (p:=⟨b,_,none⟩) hb).trans c6,(h.cell (p:=⟨b,_,none⟩) hb).trans c7,(h.cell (p:=⟨b,_,none⟩) hb).trans c8⟩
        refine wp_region_held_drew (S:=(fun w'=>w'.cell? ⟨gw,0,none⟩=some (.slice (some ⟨b,off,none⟩) n nc)∧w'.cell? ⟨gw,1,none⟩=some (.slice LA m lc)∧w'.cell? ⟨b,off+i*9,none⟩=some (.string (D.Nm i))∧w'.cell? ⟨b,off+i*9+1,none⟩=some (.int .i64 (D.Kd i))∧w'.cell? ⟨b,off+i*9+2,none⟩=some (.int .i64 (D.Ax i))∧w'.cell? ⟨b,off+i*9+3,none⟩=some (.int .i64 (D.Ay i))∧w'.cell? ⟨b,off+i*9+4,none⟩=some (.int .i64 (D.Iv i))∧w'.cell? ⟨b,off+i*9+5,none⟩=some (.int .i64 (D.Gd i))∧w'.cell? ⟨b,off+i*9+6,none⟩=some (.slice (D.SA i) (D.SN i) (D.SC i))∧w'.cell? ⟨b,off+i*9+7,none⟩=some (.bool (D.Pt i))∧w'.cell? ⟨b,off+i*9+8,none⟩=some (.int .i64 (D.Rs i)))) (by kernel_rfl) ?_ (fun hHeld=>?_)
        ·exact KS.out _ ((bR _ wr).drew)
        refine tkW 0 (some 24) ?_
        refine tkW 1 (some 25) ?_
        refine tkW 2 (some 26) ?_
        refine tkW 3 (some 27) ?_
        refine tkW 4 (some 28) ?_
        refine wpAnyH_ready (rs:=[5]) (by kernel_rfl) (by simp) ?_
        refine AllReadyH.cons rfl (fun K hK=>?_) AllReadyH.nil
        go_simp
        go_at_call 61
        with_reducible refine (SN.out _ ?_).mono ?_
        focus (exact HTB.out.below (nl _) ((bR _ wr).drew))
        rintro e w5 ⟨rfl,hb5⟩
        have hq5:Below wr.heap.size wr w5:=((bR _ wr).drew).trans hb5
        clear hb5
        go_wp2_with fail
        refine hK.out _ _ (KS.out _ hq5) (fun hHelda1=>?_)
        clear hK K hHeld
        (try simp only [Act.put,sA,sB,sC])
        refine tkW 6 (some 30) ?_
        refine tkW 7 (some 31) ?_
        refine tkWN 8 (some 32) ?_
        refine tkWN 9 (some 33) ?_
        refine tkWN 10 (some 34) ?_
        refine tkWN 11 (some 35) ?_
        refine tkWN 12 (some 36) ?_
        refine tkWN 13 (some 37) ?_
        refine tkWN 14 (some 38) ?_
        refine tkWN 15 (some 39) ?_
        refine tkWN 16 (some 40) ?_
        refine tkWN 17 (some 41) ?_
        refine tkW 18 (some 42) ?_
        refine wpAnyH_done (by kernel_rfl) ?_ _
        go_wp2_with fail
        go_ret
        exact ⟨rfl,HWW.out.trans (hq5.mono HWW.out.size)⟩
   rw [zA2 g1] at sn
   have SN:=LH sn
   by_cases g2:fnd D.Nm n (D.Nm i)=(i:Int)
   case neg=>
        obtain rfl:V=false:=HVF.out fun h=>g2 h.2
        generalize fnd D.Nm n (D.Nm i)=v at sf g2
        have t5:(v==(i:Int))=false:=by simpa using g2
        have t6:(v !=(i:Int))=true:=by simpa using g2
        have SH:=LH sf
        clear sn sf g1 g2
        go_upto_region 6 with fail
        have KS:Hid (∀w',Below wr.heap.size wr w'→w'.cell? ⟨gw,0,none⟩=some (.slice (some ⟨b,off,none⟩) n nc)∧w'.cell? ⟨gw,1,none⟩=some (.slice LA m lc)∧w'.cell? ⟨b,off+i*9,none⟩=some (.string (D.Nm i))∧w'.cell? ⟨b,off+i*9+1,none⟩=some (.int .i64 (D.Kd i))∧w'.cell? ⟨b,off+i*9+2,none⟩=some (.int .i64 (D.Ax i))∧w'.cell? ⟨b,off+i*9+3,none⟩=some (.int .i64 (D.Ay i))∧w'.cell? ⟨b,off+i*9+4,none⟩=some (.int .i64 (D.Iv i))∧w'.cell? ⟨b,off+i*9+5,none⟩=some (.int .i64 (D.Gd i))∧w'.cell? ⟨b,off+i*9+6,none⟩=some (.slice (D.SA i) (D.SN i) (D.SC i))∧w'.cell? ⟨b,off+i*9+7,none⟩=some (.bool (D.Pt i))∧w'.cell? ⟨b,off+i*9+8,none⟩=some (.int .i64 (D.Rs i))):=fun w' h=>⟨(h.cell (p:=⟨gw,0,none⟩) HBr.out.lt).trans d0,(h.cell (p:=⟨gw,1,none⟩) HBr.out.lt).trans d1,(h.cell (p:=⟨b,_,none⟩) hb).trans c0,(h.cell (p:=⟨b,_,none⟩) hb).trans c1,(h.cell (p:=⟨b,_,none⟩) hb).trans c2,(h.cell (p:=⟨b,_,none⟩) hb).trans c3,(h.cell (p:=⟨b,_,none⟩) hb).trans c4,(h.cell (p:=⟨b,_,none⟩) hb).trans c5,(h.cell (p:=⟨b,_,none⟩) hb).trans c6,(h.cell (p:=⟨b,_,none⟩) hb).trans c7,(h.cell (p:=⟨b,_,none⟩) hb).trans c8⟩
        refine wp_region_held_drew (S:=(fun w'=>w'.cell? ⟨gw,0,none⟩=some (.slice (some ⟨b,off,none⟩) n nc)∧w'.cell? ⟨gw,1,none⟩=some (.slice LA m lc)∧w'.cell? ⟨b,off+i*9,none⟩=some (.string (D.Nm i))∧w'.cell? ⟨b,off+i*9+1,none⟩=some (.int .i64 (D.Kd i))∧w'.cell? ⟨b,off+i*9+2,none⟩=some (.int .i64 (D.Ax i))∧w'.cell? ⟨b,off+i*9+3,none⟩=some (.int .i64 (D.Ay i))∧w'.cell? ⟨b,off+i*9+4,none⟩=some (.int .i64 (D.Iv i))∧w'.cell? ⟨b,off+i*9+5,none⟩=some (.int .i64 (D.Gd i))∧w'.cell? ⟨b,off+i*9+6,none⟩=some (.slice (D.SA i) (D.SN i) (D.SC i))∧w'.cell? ⟨b,off+i*9+7,none⟩=some (.bool (D.Pt i))∧w'.cell? ⟨b,off+i*9+8,none⟩=some (.int .i64 (D.Rs i)))) (by kernel_rfl) ?_ (fun hHeld=>?_)
        ·exact KS.out _ ((bR _ wr).drew)
        refine tkW 0 (some 24) ?_
        refine tkW 1 (some 25) ?_
        refine tkW 2 (some 26) ?_
        refine tkW 3 (some 27) ?_
        refine tkW 4 (some 28) ?_
        refine wpAnyH_ready (rs:=[5]) (by kernel_rfl) (by simp) ?_
        refine AllReadyH.cons rfl (fun K hK=>?_) AllReadyH.nil
        go_simp
        go_at_call 61
        with_reducible refine (SN.out _ ?_).mono ?_
        focus (exact HTB.out.below (nl _) ((bR _ wr).drew))
        rintro e w5 ⟨rfl,hb5⟩
        have hq5:Below wr.heap.size wr w5:=((bR _ wr).drew).trans hb5
        clear hb5
        go_wp2_with fail
        refine hK.out _ _ (KS.out _ hq5) (fun hHeldb1=>?_)
        clear hK K hHeld
        (try simp only [Act.put,sA,sB,sC])
        refine tkW 6 (some 30) ?_
        refine tkW 7 (some 31) ?_
        refine tkW 8 (some 32) ?_
        refine tkW 9 (some 33) ?_
        refine tkW 10 (some 34) ?_
        refine tkW 11 (some 35) ?_
        refine tkW 12 (some 36) ?_
        refine tkW 13 (some 37) ?_
        refine tkW 14 (some 38) ?_
        refine tkW 16 (some 40) ?_
        refine wpAnyH_ready (rs:=[15]) (by kernel_rfl) (by simp) ?_
        refine AllReadyH.cons rfl (fun K hK=>?_) AllReadyH.nil
        go_simp
        go_at_call 71
        with_reducible refine (SH.out _ ?_).mono ?_
        focus (exact HD.out.below (nl _) (HWW.out.trans (hq5.mono HWW.out.size)))
        rintro e w6 ⟨rfl,hb6⟩
        have hq6:Below wr.heap.size wr w6:=hq5.trans (hb6.mono hq5.size)
        clear hb6
        go_wp2_with fail
        refine hK.out _ _ (KS.out _ hq6) (fun hHeldb2=>?_)
        clear hK K hHeldb1
        (try simp only [Act.put,sA,sB,sC])
        refine tkW 17 (some 41) ?_
        refine tkW 18 (some 42) ?_
        refine wpAnyH_done (by kernel_rfl) ?_ _
        go_wp2_with fail
        go_ret
        exact ⟨rfl,HWW.out.trans (hq6.mono HWW.out.size)⟩
   rw [g2] at sf
   have SH:=LH sf
   have HGD:=LH (HST.out ⟨g1,g2⟩)
   clear sn sf g1 g2
   go_upto_region 6 with fail
   have KS:Hid (∀w',Below wr.heap.size wr w'→w'.cell? ⟨gw,0,none⟩=some (.slice (some ⟨b,off,none⟩) n nc)∧w'.cell? ⟨gw,1,none⟩=some (.slice LA m lc)∧w'.cell? ⟨b,off+i*9,none⟩=some (.string (D.Nm i))∧w'.cell? ⟨b,off+i*9+1,none⟩=some (.int .i64 (D.Kd i))∧w'.cell? ⟨b,off+i*9+2,none⟩=some (.int .i64 (D.Ax i))∧w'.cell? ⟨b,off+i*9+3,none⟩=some (.int .i64 (D.Ay i))∧w'.cell? ⟨b,off+i*9+4,none⟩=some (.int .i64 (D.Iv i))∧w'.cell? ⟨b,off+i*9+5,none⟩=some (.int .i64 (D.Gd i))∧w'.cell? ⟨b,off+i*9+6,none⟩=some (.slice (D.SA i) (D.SN i) (D.SC i))∧w'.cell? ⟨b,off+i*9+7,none⟩=some (.bool (D.Pt i))∧w'.cell? ⟨b,off+i*9+8,none⟩=some (.int .i64 (D.Rs i))):=fun w' h=>⟨(h.cell (p:=⟨gw,0,none⟩) HBr.out.lt).trans d0,(h.cell (p:=⟨gw,1,none⟩) HBr.out.lt).trans d1,(h.cell (p:=⟨b,_,none⟩) hb).trans c0,(h.cell (p:=⟨b,_,none⟩) hb).trans c1,(h.cell (p:=⟨b,_,none⟩) hb).trans c2,(h.cell (p:=⟨b,_,none⟩) hb).trans c3,(h.cell (p:=⟨b,_,none⟩) hb).trans c4,(h.cell (p:=⟨b,_,none⟩) hb).trans c5,(h.cell (p:=⟨b,_,none⟩) hb).trans c6,(h.cell (p:=⟨b,_,none⟩) hb).trans c7,(h.cell (p:=⟨b,_,none⟩) hb).trans c8⟩
   refine wp_region_held_drew (S:=(fun w'=>w'.cell? ⟨gw,0,none⟩=some (.slice (some ⟨b,off,none⟩) n nc)∧w'.cell? ⟨gw,1,none⟩=some (.slice LA m lc)∧w'.cell? ⟨b,off+i*9,none⟩=some (.string (D.Nm i))∧w'.cell? ⟨b,off+i*9+1,none⟩=some (.int .i64 (D.Kd i))∧w'.cell? ⟨b,off+i*9+2,none⟩=some (.int .i64 (D.Ax i))∧w'.cell? ⟨b,off+i*9+3,none⟩=some (.int .i64 (D.Ay i))∧w'.cell? ⟨b,off+i*9+4,none⟩=some (.int .i64 (D.Iv i))∧w'.cell? ⟨b,off+i*9+5,none⟩=some (.int .i64 (D.Gd i))∧w'.cell? ⟨b,off+i*9+6,none⟩=some (.slice (D.SA i) (D.SN i) (D.SC i))∧w'.cell? ⟨b,off+i*9+7,none⟩=some (.bool (D.Pt i))∧w'.cell? ⟨b,off+i*9+8,none⟩=some (.int .i64 (D.Rs i)))) (by kernel_rfl) ?_ (fun hHeld=>?_)
   ·exact KS.out _ ((bR _ wr).drew)
   refine tkW 0 (some 24) ?_
   refine tkW 1 (some 25) ?_
   refine tkW 2 (some 26) ?_
   refine tkW 3 (some 27) ?_
   refine tkW 4 (some 28) ?_
   refine wpAnyH_ready (rs:=[5]) (by kernel_rfl) (by simp) ?_
   refine AllReadyH.cons rfl (fun K hK=>?_) AllReadyH.nil
   go_simp
   go_at_call 61
   with_reducible refine (SN.out _ ?_).mono ?_
   focus (exact HTB.out.below (nl _) ((bR _ wr).drew))
   rintro e w5 ⟨rfl,hb5⟩
   have hq5:Below wr.heap.size wr w5:=((bR _ wr).drew).trans hb5
   clear hb5
   go_wp2_with fail
   refine hK.out _ _ (KS.out _ hq5) (fun hHeldc1=>?_)
   clear hK K hHeld
   (try simp only [Act.put,sA,sB,sC])
   refine tkW 6 (some 30) ?_
   refine tkW 7 (some 31) ?_
   refine tkW 8 (some 32) ?_
   refine tkW 9 (some 33) ?_
   refine tkW 10 (some 34) ?_
   refine tkW 11 (some 35) ?_
   refine tkW 12 (some 36) ?_
   refine tkW 13 (some 37) ?_
   refine tkW 14 (some 38) ?_
   refine tkW 16 (some 40) ?_
   refine wpAnyH_ready (rs:=[15]) (by kernel_rfl) (by simp) ?_
   refine AllReadyH.cons rfl (fun K hK=>?_) AllReadyH.nil
   go_simp
   go_at_call 71
   with_reducible refine (SH.out _ ?_).mono ?_
   focus (exact HD.out.below (nl _) (HWW.out.trans (hq5.mono HWW.out.size)))
   rintro e w6 ⟨rfl,hb6⟩
   have hq6:Below wr.heap.size wr w6:=hq5.trans (hb6.mono hq5.size)
   clear hb6
   go_wp2_with fail
   refine hK.out _ _ (KS.out _ hq6) (fun hHeldc2=>?_)
   clear hK K hHeldc1
   (try simp only [Act.put,sA,sB,sC])
   refine tkW 17 (some 41) ?_
   refine tkW 18 (some 42) ?_
   refine wpAnyH_done (by kernel_rfl) ?_ _
   go_wp2_with fail
   have HB6:Hid (Below w0.heap.size w0 w6):=HW.out.trans (hq6.mono HW.out.size)
   go_roundw
   case rel=>exact ⟨i',HI',rfl,HGD,HB6⟩
   case measure=>exact HMS.out
  ·have hin:i=n:=by have:=Hi.out;omega
   have T0:decide ((i:Int)<(n:Int))=false:=by simp<;> omega
   have T0':decide (i<n)=false:=dF hlt
   have HGN:Hid (∀j,j<n→ndsP D n j):=fun j hj=>HG.out j (by omega)
   clear hlt hin
   go_wp2_with fail
   go_loopw [4] (fun u wr=>∃i:Nat,Hid (i≤m)∧u= .int .i64 i∧Hid (∀j,j<i→lksP D n K m j)∧Hid (Below w0.heap.size w0 wr)) (fun u _=>m - (RowKit.intOf u).toNat)
   case atStart=>exact ⟨0,Nat.zero_le _,rfl,fun j hj=>absurd hj (Nat.not_lt_zero _),HW⟩
   case round=>
        clear d0 d1 HBr HWW
        obtain ⟨i,Hi,rfl,HG,HW⟩:=hrel
        have HWW:Hid (Below w.heap.size w wr):=HW0.out.trans (HW.out.mono HW0.out.size)
        have HBr:=LH (HB0.out.call HW.out)
        obtain ⟨d0,d1⟩:=blk2 HBr.out
        by_cases hlt:i<m
        ·have T0:decide ((i:Int)<(m:Int))=true:=by simp<;> omega
         have T0':decide (i<m)=true:=dU hlt
         obtain ⟨i',hi'⟩:∃z,z=i+1:=⟨_,rfl⟩
         have x0:IntKind.i64.wrap ((i:Int)+1)=(i':Int):=by have:=H2.out;rw [IntKind.wrap_i64];omega
         have HI':Hid (i'≤m):=by show i'≤m;omega
         have HMS:Hid (m - (RowKit.intOf (Value.int .i64 (i':Int))).toNat<m - (RowKit.intOf (Value.int .i64 (i:Int))).toNat):=by show _<_;simp [RowKit.intOf];omega
         have k0:(0:Int)≤(i:Int):=by omega
         have k1:(i:Int)<(m:Int):=by omega
         obtain ⟨b,off,rfl,hb,hC,htab⟩:=(HK.out.below (nl _) HWW.out).at hlt
         have c0:=hC 0 _ rfl
         have c1:=hC 1 _ rfl
         have c2:=hC 2 _ rfl
         have c3:=hC 3 _ rfl
         have c4:=hC 4 _ rfl
         have c5:=hC 5 _ rfl
         have c6:=hC 6 _ rfl
         have c7:=hC 7 _ rfl
         have c8:=hC 8 _ rfl
         have c9:=hC 9 _ rfl
         have c10:=hC 10 _ rfl
         simp only [Nat.add_zero] at c0
         have HTB:=LH htab
         have sn:=fun w ht=>rlink (K.Nm i) (K.Fr i) (K.To i) (K.Kd i) (K.Ln i) (K.Up i) (K.Dn i) (K.Sc i) (K.Wd i) (K.Ht i) (K.CA i) (K.CN i) (K.CC i) (K.CX i) (K.CY i) (HZ.out.kn i hlt) (HZ.out.kf i hlt) (HZ.out.kt i hlt) (HZ.out.ks i hlt) w ht
         have HVF:Hid (¬lksP D n K m i→V=false):=fun h=>by rw [HV.out];exact zA0 fun g=>h (g.2.2.2 i hlt)
         have HST:Hid (lksP D n K m i→∀j,j<i'→lksP D n K m j):=fun h j hj=>by
          rcases Nat.lt_or_ge j i with g |g
          ·exact HG.out j g
          ·have:j=i:=by omega
           rw [this];exact h
         have hnp:boolOf (zR7 (K.Nm i) (K.Fr i) (K.To i) (K.Kd i) (K.Ln i) (K.Up i) (K.Dn i) (K.Sc i) (K.Wd i) (K.Ht i) (K.CN i) (K.CX i) (K.CY i))=boolOf (lkP K i):=rfl
         rw [hnp] at sn
         have sg:=fun w hK=>SG.out (K.Nm i) w hK
         have sf:=fun w hD=>SF.out (K.Fr i) w hD
         have st:=fun w hD=>SF.out (K.To i) w hD
         clear hi' hlt hC htab hnp
         by_cases g1:lkP K i
         case neg=>
          obtain rfl:V=false:=HVF.out fun h=>g1 h.1
          rw [zA0 g1] at sn
          have SN:=LH sn
          clear sn sg sf st g1
          go_upto_region 12 with fail
          have HBG:=LH (Blk.new wr 32 #[.string (K.Nm i),.string (K.Fr i),.string (K.To i),.int .i64 (K.Kd i),.int .i64 (K.Ln i),.int .i64 (K.Up i),.int .i64 (K.Dn i),.string (K.Sc i),.int .i64 (K.Wd i),.int .i64 (K.Ht i),.slice (K.CA i) (K.CN i) (K.CC i)])
          have hal:Below wr.heap.size wr (wr.alloc (Obj.cells #[.string (K.Nm i),.string (K.Fr i),.string (K.To i),.int .i64 (K.Kd i),.int .i64 (K.Ln i),.int .i64 (K.Up i),.int .i64 (K.Dn i),.string (K.Sc i),.int .i64 (K.Wd i),.int .i64 (K.Ht i),.slice (K.CA i) (K.CN i) (K.CC i)] 32)):=(bR _ wr).alloc (nl _) _
          have HW4:Hid (Below w.heap.size w (wr.alloc (Obj.cells #[.string (K.Nm i),.string (K.Fr i),.string (K.To i),.int .i64 (K.Kd i),.int .i64 (K.Ln i),.int .i64 (K.Up i),.int .i64 (K.Dn i),.string (K.Sc i),.int .i64 (K.Wd i),.int .i64 (K.Ht i),.slice (K.CA i) (K.CN i) (K.CC i)] 32))):=HWW.out.trans (hal.mono HWW.out.size)
          have HB4:Hid (Below w0.heap.size w0 (wr.alloc (Obj.cells #[.string (K.Nm i),.string (K.Fr i),.string (K.To i),.int .i64 (K.Kd i),.int .i64 (K.Ln i),.int .i64 (K.Up i),.int .i64 (K.Dn i),.string (K.Sc i),.int .i64 (K.Wd i),.int .i64 (K.Ht i),.slice (K.CA i) (K.CN i) (K.CC i)] 32))):=HW.out.trans (hal.mono HW.out.size)
          have HN4:=LH (HBr.out.call hal)
          have HX4:=LH hal
          clear hal d0 d1 c0 c1 c2 c3 c4 c5 c6 c7 c8 c9 c10
          generalize wr.alloc (Obj.cells #[.string (K.Nm i),.string (K.Fr i),.string (K.To i),.int .i64 (K.Kd i),.int .i64 (K.Ln i),.int .i64 (K.Up i),.int .i64 (K.Dn i),.string (K.Sc i),.int .i64 (K.Wd i),.int .i64 (K.Ht i),.slice (K.CA i) (K.CN i) (K.CC i)] 32)=w4 at HBG HW4 HB4 HN4 HX4⊢
          have HG4:=HBG
          generalize hgg:wr.heap.size=G at HBG HG4⊢
          clear HBG
          have HBG:=HG4
          obtain ⟨d0,d1⟩:=blk2 HN4.out
          obtain ⟨q0,q1,q2,q3,q4,q5,q6,q7,q8,q9,q10⟩:=zC5 HBG.out
          go_wp2_with (first
           |(go_at_call 62
             with_reducible refine (SN.out _ ?_).mono ?_
             focus (exact HTB.out.below (nl _) (HX4.out))
             rintro e w5 ⟨rfl,hb5⟩
             have HW5:Hid (Below w.heap.size w w5):=HW4.out.trans (hb5.mono HW4.out.size)
             have HB5:Hid (Below w0.heap.size w0 w5):=HB4.out.trans (hb5.mono HB4.out.size)
             have HN5:=LH (HN4.out.call hb5)
             have HG5:=LH (HG4.out.call hb5)
             obtain ⟨d0,d1⟩:=blk2 HN5.out
             obtain ⟨q0,q1,q2,q3,q4,q5,q6,q7,q8,q9,q10⟩:=zC5 HG5.out
             clear hb5))
          go_ret
          exact ⟨rfl,HW5.out⟩
         rw [zA2 g1] at sn
         have SN:=LH sn
         by_cases g2:fnd K.Nm m (K.Nm i)=(i:Int)
         case neg=>
          obtain rfl:V=false:=HVF.out fun h=>g2 h.2.1
          generalize fnd K.Nm m (K.Nm i)=v at sg g2
          have t5:(v==(i:Int))=false:=by simpa using g2
          have t6:(v !=(i:Int))=true:=by simpa using g2
          have SGL:=LH sg
          clear sn sg sf st g1 g2
          go_upto_region 12 with fail
          have HBG:=LH (Blk.new wr 32 #[.string (K.Nm i),.string (K.Fr i),.string (K.To i),.int .i64 (K.Kd i),.int .i64 (K.Ln i),.int .i64 (K.Up i),.int .i64 (K.Dn i),.string (K.Sc i),.int .i64 (K.Wd i),.int .i64 (K.Ht i),.slice (K.CA i) (K.CN i) (K.CC i)])
          have hal:Below wr.heap.size wr (wr.alloc (Obj.cells #[.string (K.Nm i),.string (K.Fr i),.string (K.To i),.int .i64 (K.Kd i),.int .i64 (K.Ln i),.int .i64 (K.Up i),.int .i64 (K.Dn i),.string (K.Sc i),.int .i64 (K.Wd i),.int .i64 (K.Ht i),.slice (K.CA i) (K.CN i) (K.CC i)] 32)):=(bR _ wr).alloc (nl _) _
          have HW4:Hid (Below w.heap.size w (wr.alloc (Obj.cells #[.string (K.Nm i),.string (K.Fr i),.string (K.To i),.int .i64 (K.Kd i),.int .i64 (K.Ln i),.int .i64 (K.Up i),.int .i64 (K.Dn i),.string (K.Sc i),.int .i64 (K.Wd i),.int .i64 (K.Ht i),.slice (K.CA i) (K.CN i) (K.CC i)] 32))):=HWW.out.trans (hal.mono HWW.out.size)
          have HB4:Hid (Below w0.heap.size w0 (wr.alloc (Obj.cells #[.string (K.Nm i),.string (K.Fr i),.string (K.To i),.int .i64 (K.Kd i),.int .i64 (K.Ln i),.int .i64 (K.Up i),.int .i64 (K.Dn i),.string (K.Sc i),.int .i64 (K.Wd i),.int .i64 (K.Ht i),.slice (K.CA i) (K.CN i) (K.CC i)] 32))):=HW.out.trans (hal.mono HW.out.size)
          have HN4:=LH (HBr.out.call hal)
          have HX4:=LH hal
          clear hal d0 d1 c0 c1 c2 c3 c4 c5 c6 c7 c8 c9 c10
          generalize wr.alloc (Obj.cells #[.string (K.Nm i),.string (K.Fr i),.string (K.To i),.int .i64 (K.Kd i),.int .i64 (K.Ln i),.int .i64 (K.Up i),.int .i64 (K.Dn i),.string (K.Sc i),.int .i64 (K.Wd i),.int .i64 (K.Ht i),.slice (K.CA i) (K.CN i) (K.CC i)] 32)=w4 at HBG HW4 HB4 HN4 HX4⊢
          have HG4:=HBG
          generalize hgg:wr.heap.size=G at HBG HG4⊢
          clear HBG
          have HBG:=HG4
          obtain ⟨d0,d1⟩:=blk2 HN4.out
          obtain ⟨q0,q1,q2,q3,q4,q5,q6,q7,q8,q9,q10⟩:=zC5 HBG.out
          go_wp2_with (first
           |(go_at_call 62
             with_reducible refine (SN.out _ ?_).mono ?_
             focus (exact HTB.out.below (nl _) (HX4.out))
             rintro e w5 ⟨rfl,hb5⟩
             have HW5:Hid (Below w.heap.size w w5):=HW4.out.trans (hb5.mono HW4.out.size)
             have HB5:Hid (Below w0.heap.size w0 w5):=HB4.out.trans (hb5.mono HB4.out.size)
             have HN5:=LH (HN4.out.call hb5)
             have HG5:=LH (HG4.out.call hb5)
             obtain ⟨d0,d1⟩:=blk2 HN5.out
             obtain ⟨q0,q1,q2,q3,q4,q5,q6,q7,q8,q9,q10⟩:=zC5 HG5.out
             clear hb5)
           |(go_at_call 72
             with_reducible refine (SGL.out _ ?_).mono ?_
             focus (exact HK.out.below (nl _) HW5.out)
             rintro e w6 ⟨rfl,hb6⟩
             have HW6:Hid (Below w.heap.size w w6):=HW5.out.trans (hb6.mono HW5.out.size)
             have HB6:Hid (Below w0.heap.size w0 w6):=HB5.out.trans (hb6.mono HB5.out.size)
             have HN6:=LH (HN5.out.call hb6)
             have HG6:=LH (HG5.out.call hb6)
             obtain ⟨d0,d1⟩:=blk2 HN6.out
             obtain ⟨q0,q1,q2,q3,q4,q5,q6,q7,q8,q9,q10⟩:=zC5 HG6.out
             clear hb6))
          go_ret
          exact ⟨rfl,HW6.out⟩
         rw [g2] at sg
         have SGL:=LH sg
         obtain ⟨vf,hvf⟩:∃z,z=fnd D.Nm n (K.Fr i):=⟨_,rfl⟩
         obtain ⟨vt,hvt⟩:∃z,z=fnd D.Nm n (K.To i):=⟨_,rfl⟩
         have HVf:=LH hvf
         have HVt:=LH hvt
         rw [←hvf] at sf
         rw [←hvt] at st
         have SFF:=LH sf
         have SFT:=LH st
         have hbd:=fnd_bd D.Nm n (K.Fr i)
         rw [←hvf] at hbd
         clear sn sg sf st hvf hvt
         by_cases g4:0≤vt
         case neg=>
          obtain rfl:V=false:=HVF.out fun h=>by have h3:=h.2.2.2.1;rw [←HVt.out] at h3;exact g4 h3
          have t8:decide (vt<0)=true:=dU (by omega)
          clear g1 g2 g4 hbd
          go_upto_region 12 with fail
          have HBG:=LH (Blk.new wr 32 #[.string (K.Nm i),.string (K.Fr i),.string (K.To i),.int .i64 (K.Kd i),.int .i64 (K.Ln i),.int .i64 (K.Up i),.int .i64 (K.Dn i),.string (K.Sc i),.int .i64 (K.Wd i),.int .i64 (K.Ht i),.slice (K.CA i) (K.CN i) (K.CC i)])
          have hal:Below wr.heap.size wr (wr.alloc (Obj.cells #[.string (K.Nm i),.string (K.Fr i),.string (K.To i),.int .i64 (K.Kd i),.int .i64 (K.Ln i),.int .i64 (K.Up i),.int .i64 (K.Dn i),.string (K.Sc i),.int .i64 (K.Wd i),.int .i64 (K.Ht i),.slice (K.CA i) (K.CN i) (K.CC i)] 32)):=(bR _ wr).alloc (nl _) _
          have HW4:Hid (Below w.heap.size w (wr.alloc (Obj.cells #[.string (K.Nm i),.string (K.Fr i),.string (K.To i),.int .i64 (K.Kd i),.int .i64 (K.Ln i),.int .i64 (K.Up i),.int .i64 (K.Dn i),.string (K.Sc i),.int .i64 (K.Wd i),.int .i64 (K.Ht i),.slice (K.CA i) (K.CN i) (K.CC i)] 32))):=HWW.out.trans (hal.mono HWW.out.size)
          have HB4:Hid (Below w0.heap.size w0 (wr.alloc (Obj.cells #[.string (K.Nm i),.string (K.Fr i),.string (K.To i),.int .i64 (K.Kd i),.int .i64 (K.Ln i),.int .i64 (K.Up i),.int .i64 (K.Dn i),.string (K.Sc i),.int .i64 (K.Wd i),.int .i64 (K.Ht i),.slice (K.CA i) (K.CN i) (K.CC i)] 32))):=HW.out.trans (hal.mono HW.out.size)
          have HN4:=LH (HBr.out.call hal)
          have HX4:=LH hal
          clear hal d0 d1 c0 c1 c2 c3 c4 c5 c6 c7 c8 c9 c10
          generalize wr.alloc (Obj.cells #[.string (K.Nm i),.string (K.Fr i),.string (K.To i),.int .i64 (K.Kd i),.int .i64 (K.Ln i),.int .i64 (K.Up i),.int .i64 (K.Dn i),.string (K.Sc i),.int .i64 (K.Wd i),.int .i64 (K.Ht i),.slice (K.CA i) (K.CN i) (K.CC i)] 32)=w4 at HBG HW4 HB4 HN4 HX4⊢
          have HG4:=HBG
          generalize hgg:wr.heap.size=G at HBG HG4⊢
          clear HBG
          have HBG:=HG4
          obtain ⟨d0,d1⟩:=blk2 HN4.out
          obtain ⟨q0,q1,q2,q3,q4,q5,q6,q7,q8,q9,q10⟩:=zC5 HBG.out
          go_wp2_with (first
           |(go_at_call 62
             with_reducible refine (SN.out _ ?_).mono ?_
             focus (exact HTB.out.below (nl _) (HX4.out))
             rintro e w5 ⟨rfl,hb5⟩
             have HW5:Hid (Below w.heap.size w w5):=HW4.out.trans (hb5.mono HW4.out.size)
             have HB5:Hid (Below w0.heap.size w0 w5):=HB4.out.trans (hb5.mono HB4.out.size)
             have HN5:=LH (HN4.out.call hb5)
             have HG5:=LH (HG4.out.call hb5)
             obtain ⟨d0,d1⟩:=blk2 HN5.out
             obtain ⟨q0,q1,q2,q3,q4,q5,q6,q7,q8,q9,q10⟩:=zC5 HG5.out
             clear hb5)
           |(go_at_call 72
             with_reducible refine (SGL.out _ ?_).mono ?_
             focus (exact HK.out.below (nl _) HW5.out)
             rintro e w6 ⟨rfl,hb6⟩
             have HW6:Hid (Below w.heap.size w w6):=HW5.out.trans (hb6.mono HW5.out.size)
             have HB6:Hid (Below w0.heap.size w0 w6):=HB5.out.trans (hb6.mono HB5.out.size)
             have HN6:=LH (HN5.out.call hb6)
             have HG6:=LH (HG5.out.call hb6)
             obtain ⟨d0,d1⟩:=blk2 HN6.out
             obtain ⟨q0,q1,q2,q3,q4,q5,q6,q7,q8,q9,q10⟩:=zC5 HG6.out
             clear hb6)
           |(go_at_call 71
             with_reducible refine (SFT.out _ ?_).mono ?_
             focus (exact HD.out.below (nl _) HW6.out)
             rintro e w7 ⟨rfl,hb7⟩
             have HW7:Hid (Below w.heap.size w w7):=HW6.out.trans (hb7.mono HW6.out.size)
             have HB7:Hid (Below w0.heap.size w0 w7):=HB6.out.trans (hb7.mono HB6.out.size)
             have HN7:=LH (HN6.out.call hb7)
             have HG7:=LH (HG6.out.call hb7)
             obtain ⟨d0,d1⟩:=blk2 HN7.out
             obtain ⟨q0,q1,q2,q3,q4,q5,q6,q7,q8,q9,q10⟩:=zC5 HG7.out
             clear hb7))
          go_ret
          exact ⟨rfl,HW7.out⟩
         have t8:decide (vt<0)=false:=dF (by omega)
         rcases hbd with hm1 |⟨kk,hkk,hvk,_⟩
         ·obtain rfl:V=false:=HVF.out fun h=>by have h3:=h.2.2.1;rw [←HVf.out,hm1] at h3;omega
          subst hm1
          clear g1 g2 g4
          go_upto_region 12 with fail
          have HBG:=LH (Blk.new wr 32 #[.string (K.Nm i),.string (K.Fr i),.string (K.To i),.int .i64 (K.Kd i),.int .i64 (K.Ln i),.int .i64 (K.Up i),.int .i64 (K.Dn i),.string (K.Sc i),.int .i64 (K.Wd i),.int .i64 (K.Ht i),.slice (K.CA i) (K.CN i) (K.CC i)])
          have hal:Below wr.heap.size wr (wr.alloc (Obj.cells #[.string (K.Nm i),.string (K.Fr i),.string (K.To i),.int .i64 (K.Kd i),.int .i64 (K.Ln i),.int .i64 (K.Up i),.int .i64 (K.Dn i),.string (K.Sc i),.int .i64 (K.Wd i),.int .i64 (K.Ht i),.slice (K.CA i) (K.CN i) (K.CC i)] 32)):=(bR _ wr).alloc (nl _) _
          have HW4:Hid (Below w.heap.size w (wr.alloc (Obj.cells #[.string (K.Nm i),.string (K.Fr i),.string (K.To i),.int .i64 (K.Kd i),.int .i64 (K.Ln i),.int .i64 (K.Up i),.int .i64 (K.Dn i),.string (K.Sc i),.int .i64 (K.Wd i),.int .i64 (K.Ht i),.slice (K.CA i) (K.CN i) (K.CC i)] 32))):=HWW.out.trans (hal.mono HWW.out.size)
          have HB4:Hid (Below w0.heap.size w0 (wr.alloc (Obj.cells #[.string (K.Nm i),.string (K.Fr i),.string (K.To i),.int .i64 (K.Kd i),.int .i64 (K.Ln i),.int .i64 (K.Up i),.int .i64 (K.Dn i),.string (K.Sc i),.int .i64 (K.Wd i),.int .i64 (K.Ht i),.slice (K.CA i) (K.CN i) (K.CC i)] 32))):=HW.out.trans (hal.mono HW.out.size)
          have HN4:=LH (HBr.out.call hal)
          have HX4:=LH hal
          clear hal d0 d1 c0 c1 c2 c3 c4 c5 c6 c7 c8 c9 c10
          generalize wr.alloc (Obj.cells #[.string (K.Nm i),.string (K.Fr i),.string (K.To i),.int .i64 (K.Kd i),.int .i64 (K.Ln i),.int .i64 (K.Up i),.int .i64 (K.Dn i),.string (K.Sc i),.int .i64 (K.Wd i),.int .i64 (K.Ht i),.slice (K.CA i) (K.CN i) (K.CC i)] 32)=w4 at HBG HW4 HB4 HN4 HX4⊢
          have HG4:=HBG
          generalize hgg:wr.heap.size=G at HBG HG4⊢
          clear HBG
          have HBG:=HG4
          obtain ⟨d0,d1⟩:=blk2 HN4.out
          obtain ⟨q0,q1,q2,q3,q4,q5,q6,q7,q8,q9,q10⟩:=zC5 HBG.out
          go_wp2_with (first
           |(go_at_call 62
             with_reducible refine (SN.out _ ?_).mono ?_
             focus (exact HTB.out.below (nl _) (HX4.out))
             rintro e w5 ⟨rfl,hb5⟩
             have HW5:Hid (Below w.heap.size w w5):=HW4.out.trans (hb5.mono HW4.out.size)
             have HB5:Hid (Below w0.heap.size w0 w5):=HB4.out.trans (hb5.mono HB4.out.size)
             have HN5:=LH (HN4.out.call hb5)
             have HG5:=LH (HG4.out.call hb5)
             obtain ⟨d0,d1⟩:=blk2 HN5.out
             obtain ⟨q0,q1,q2,q3,q4,q5,q6,q7,q8,q9,q10⟩:=zC5 HG5.out
             clear hb5)
           |(go_at_call 72
             with_reducible refine (SGL.out _ ?_).mono ?_
             focus (exact HK.out.below (nl _) HW5.out)
             rintro e w6 ⟨rfl,hb6⟩
             have HW6:Hid (Below w.heap.size w w6):=HW5.out.trans (hb6.mono HW5.out.size)
             have HB6:Hid (Below w0.heap.size w0 w6):=HB5.out.trans (hb6.mono HB5.out.size)
             have HN6:=LH (HN5.out.call hb6)
             have HG6:=LH (HG5.out.call hb6)
             obtain ⟨d0,d1⟩:=blk2 HN6.out
             obtain ⟨q0,q1,q2,q3,q4,q5,q6,q7,q8,q9,q10⟩:=zC5 HG6.out
             clear hb6)
           |(go_at_call 71
             with_reducible refine (SFT.out _ ?_).mono ?_
             focus (exact HD.out.below (nl _) HW6.out)
             rintro e w7 ⟨rfl,hb7⟩
             have HW7:Hid (Below w.heap.size w w7):=HW6.out.trans (hb7.mono HW6.out.size)
             have HB7:Hid (Below w0.heap.size w0 w7):=HB6.out.trans (hb7.mono HB6.out.size)
             have HN7:=LH (HN6.out.call hb7)
             have HG7:=LH (HG6.out.call hb7)
             obtain ⟨d0,d1⟩:=blk2 HN7.out
             obtain ⟨q0,q1,q2,q3,q4,q5,q6,q7,q8,q9,q10⟩:=zC5 HG7.out
             clear hb7)
           |(go_at_call 71
             with_reducible refine (SFF.out _ ?_).mono ?_
             focus (exact HD.out.below (nl _) HW7.out)
             rintro e w8 ⟨rfl,hb8⟩
             have HW8:Hid (Below w.heap.size w w8):=HW7.out.trans (hb8.mono HW7.out.size)
             have HB8:Hid (Below w0.heap.size w0 w8):=HB7.out.trans (hb8.mono HB7.out.size)
             have HN8:=LH (HN7.out.call hb8)
             have HG8:=LH (HG7.out.call hb8)
             obtain ⟨d0,d1⟩:=blk2 HN8.out
             obtain ⟨q0,q1,q2,q3,q4,q5,q6,q7,q8,q9,q10⟩:=zC5 HG8.out
             clear hb8))
          go_ret
          exact ⟨rfl,HW8.out⟩
         subst hvk
         have t7:decide ((kk:Int)<0)=false:=dF (by omega)
         have kk0:(0:Int)≤(kk:Int):=by omega
         have kk1:(kk:Int)<(n:Int):=by omega
         have HKD:Hid (∀w',Below w.heap.size w w'→∃nb noff,NA=some ⟨nb,noff,none⟩∧w'.cell? ⟨nb,noff+kk*9+1,none⟩=some (.int .i64 (D.Kd kk))):=fun w' h=>by
          obtain ⟨nb,noff,hA,_,hc,_⟩:=(HD.out.below (nl _) h).at hkk
          exact ⟨nb,noff,hA,hc 1 _ rfl⟩
         have HKT:Hid ((kk:Int).toNat=kk):=by show _=_;omega
         obtain ⟨nb,noff,rfl,_⟩:=HKD.out _ HWW.out
         have HKE:Hid (∀w',Below w.heap.size w w'→w'.cell? ⟨nb,noff+kk*9+1,none⟩=some (.int .i64 (D.Kd kk))):=fun w' h=>by
          obtain ⟨nb',noff',hA,hc⟩:=HKD.out w' h
          injection hA with hA
          injection hA with e1 e2
          subst e1 e2
          exact hc
         by_cases g5:D.Kd kk=3
         case pos=>
          obtain rfl:V=false:=HVF.out fun h=>by have h3:=h.2.2.2.2;rw [←HVf.out,HKT.out] at h3;exact h3 g5
          rw [g5] at HKE
          clear g1 g2 g4 g5 HKD
          go_upto_region 12 with fail
          have HBG:=LH (Blk.new wr 32 #[.string (K.Nm i),.string (K.Fr i),.string (K.To i),.int .i64 (K.Kd i),.int .i64 (K.Ln i),.int .i64 (K.Up i),.int .i64 (K.Dn i),.string (K.Sc i),.int .i64 (K.Wd i),.int .i64 (K.Ht i),.slice (K.CA i) (K.CN i) (K.CC i)])
          have hal:Below wr.heap.size wr (wr.alloc (Obj.cells #[.string (K.Nm i),.string (K.Fr i),.string (K.To i),.int .i64 (K.Kd i),.int .i64 (K.Ln i),.int .i64 (K.Up i),.int .i64 (K.Dn i),.string (K.Sc i),.int .i64 (K.Wd i),.int .i64 (K.Ht i),.slice (K.CA i) (K.CN i) (K.CC i)] 32)):=(bR _ wr).alloc (nl _) _
          have HW4:Hid (Below w.heap.size w (wr.alloc (Obj.cells #[.string (K.Nm i),.string (K.Fr i),.string (K.To i),.int .i64 (K.Kd i),.int .i64 (K.Ln i),.int .i64 (K.Up i),.int .i64 (K.Dn i),.string (K.Sc i),.int .i64 (K.Wd i),.int .i64 (K.Ht i),.slice (K.CA i) (K.CN i) (K.CC i)] 32))):=HWW.out.trans (hal.mono HWW.out.size)
          have HB4:Hid (Below w0.heap.size w0 (wr.alloc (Obj.cells #[.string (K.Nm i),.string (K.Fr i),.string (K.To i),.int .i64 (K.Kd i),.int .i64 (K.Ln i),.int .i64 (K.Up i),.int .i64 (K.Dn i),.string (K.Sc i),.int .i64 (K.Wd i),.int .i64 (K.Ht i),.slice (K.CA i) (K.CN i) (K.CC i)] 32))):=HW.out.trans (hal.mono HW.out.size)
          have HN4:=LH (HBr.out.call hal)
          have HX4:=LH hal
          clear hal d0 d1 c0 c1 c2 c3 c4 c5 c6 c7 c8 c9 c10
          generalize wr.alloc (Obj.cells #[.string (K.Nm i),.string (K.Fr i),.string (K.To i),.int .i64 (K.Kd i),.int .i64 (K.Ln i),.int .i64 (K.Up i),.int .i64 (K.Dn i),.string (K.Sc i),.int .i64 (K.Wd i),.int .i64 (K.Ht i),.slice (K.CA i) (K.CN i) (K.CC i)] 32)=w4 at HBG HW4 HB4 HN4 HX4⊢
          have HG4:=HBG
          generalize hgg:wr.heap.size=G at HBG HG4⊢
          clear HBG
          have HBG:=HG4
          obtain ⟨d0,d1⟩:=blk2 HN4.out
          obtain ⟨q0,q1,q2,q3,q4,q5,q6,q7,q8,q9,q10⟩:=zC5 HBG.out
          go_wp2_with (first
           |(go_at_call 62
             with_reducible refine (SN.out _ ?_).mono ?_
             focus (exact HTB.out.below (nl _) (HX4.out))
             rintro e w5 ⟨rfl,hb5⟩
             have HW5:Hid (Below w.heap.size w w5):=HW4.out.trans (hb5.mono HW4.out.size)
             have HB5:Hid (Below w0.heap.size w0 w5):=HB4.out.trans (hb5.mono HB4.out.size)
             have HN5:=LH (HN4.out.call hb5)
             have HG5:=LH (HG4.out.call hb5)
             obtain ⟨d0,d1⟩:=blk2 HN5.out
             obtain ⟨q0,q1,q2,q3,q4,q5,q6,q7,q8,q9,q10⟩:=zC5 HG5.out
             clear hb5)
           |(go_at_call 72
             with_reducible refine (SGL.out _ ?_).mono ?_
             focus (exact HK.out.below (nl _) HW5.out)
             rintro e w6 ⟨rfl,hb6⟩
             have HW6:Hid (Below w.heap.size w w6):=HW5.out.trans (hb6.mono HW5.out.size)
             have HB6:Hid (Below w0.heap.size w0 w6):=HB5.out.trans (hb6.mono HB5.out.size)
             have HN6:=LH (HN5.out.call hb6)
             have HG6:=LH (HG5.out.call hb6)
             obtain ⟨d0,d1⟩:=blk2 HN6.out
             obtain ⟨q0,q1,q2,q3,q4,q5,q6,q7,q8,q9,q10⟩:=zC5 HG6.out
             clear hb6)
           |(go_at_call 71
             with_reducible refine (SFT.out _ ?_).mono ?_
             focus (exact HD.out.below (nl _) HW6.out)
             rintro e w7 ⟨rfl,hb7⟩
             have HW7:Hid (Below w.heap.size w w7):=HW6.out.trans (hb7.mono HW6.out.size)
             have HB7:Hid (Below w0.heap.size w0 w7):=HB6.out.trans (hb7.mono HB6.out.size)
             have HN7:=LH (HN6.out.call hb7)
             have HG7:=LH (HG6.out.call hb7)
             obtain ⟨d0,d1⟩:=blk2 HN7.out
             obtain ⟨q0,q1,q2,q3,q4,q5,q6,q7,q8,q9,q10⟩:=zC5 HG7.out
             clear hb7)
           |(go_at_call 71
             with_reducible refine (SFF.out _ ?_).mono ?_
             focus (exact HD.out.below (nl _) HW7.out)
             rintro e w8 ⟨rfl,hb8⟩
             have HW8:Hid (Below w.heap.size w w8):=HW7.out.trans (hb8.mono HW7.out.size)
             have HB8:Hid (Below w0.heap.size w0 w8):=HB7.out.trans (hb8.mono HB7.out.size)
             have HN8:=LH (HN7.out.call hb8)
             have HG8:=LH (HG7.out.call hb8)
             obtain ⟨d0,d1⟩:=blk2 HN8.out
             obtain ⟨q0,q1,q2,q3,q4,q5,q6,q7,q8,q9,q10⟩:=zC5 HG8.out
             have qk:=HKE.out _ HW8.out
             clear hb8))
          go_ret
          exact ⟨rfl,HW8.out⟩
         have HGD:=LH (HST.out ⟨g1,g2,by rw [←HVf.out];omega,by rw [←HVt.out];exact g4,by rw [←HVf.out,HKT.out];exact g5⟩)
         have t9:(D.Kd kk==3)=false:=by simpa using g5
         clear g1 g2 g4 g5 HKD
         go_upto_region 12 with fail
         have HBG:=LH (Blk.new wr 32 #[.string (K.Nm i),.string (K.Fr i),.string (K.To i),.int .i64 (K.Kd i),.int .i64 (K.Ln i),.int .i64 (K.Up i),.int .i64 (K.Dn i),.string (K.Sc i),.int .i64 (K.Wd i),.int .i64 (K.Ht i),.slice (K.CA i) (K.CN i) (K.CC i)])
         have hal:Below wr.heap.size wr (wr.alloc (Obj.cells #[.string (K.Nm i),.string (K.Fr i),.string (K.To i),.int .i64 (K.Kd i),.int .i64 (K.Ln i),.int .i64 (K.Up i),.int .i64 (K.Dn i),.string (K.Sc i),.int .i64 (K.Wd i),.int .i64 (K.Ht i),.slice (K.CA i) (K.CN i) (K.CC i)] 32)):=(bR _ wr).alloc (nl _) _
         have HW4:Hid (Below w.heap.size w (wr.alloc (Obj.cells #[.string (K.Nm i),.string (K.Fr i),.string (K.To i),.int .i64 (K.Kd i),.int .i64 (K.Ln i),.int .i64 (K.Up i),.int .i64 (K.Dn i),.string (K.Sc i),.int .i64 (K.Wd i),.int .i64 (K.Ht i),.slice (K.CA i) (K.CN i) (K.CC i)] 32))):=HWW.out.trans (hal.mono HWW.out.size)
         have HB4:Hid (Below w0.heap.size w0 (wr.alloc (Obj.cells #[.string (K.Nm i),.string (K.Fr i),.string (K.To i),.int .i64 (K.Kd i),.int .i64 (K.Ln i),.int .i64 (K.Up i),.int .i64 (K.Dn i),.string (K.Sc i),.int .i64 (K.Wd i),.int .i64 (K.Ht i),.slice (K.CA i) (K.CN i) (K.CC i)] 32))):=HW.out.trans (hal.mono HW.out.size)
         have HN4:=LH (HBr.out.call hal)
         have HX4:=LH hal
         clear hal d0 d1 c0 c1 c2 c3 c4 c5 c6 c7 c8 c9 c10
         generalize wr.alloc (Obj.cells #[.string (K.Nm i),.string (K.Fr i),.string (K.To i),.int .i64 (K.Kd i),.int .i64 (K.Ln i),.int .i64 (K.Up i),.int .i64 (K.Dn i),.string (K.Sc i),.int .i64 (K.Wd i),.int .i64 (K.Ht i),.slice (K.CA i) (K.CN i) (K.CC i)] 32)=w4 at HBG HW4 HB4 HN4 HX4⊢
         have HG4:=HBG
         generalize hgg:wr.heap.size=G at HBG HG4⊢
         clear HBG
         have HBG:=HG4
         obtain ⟨d0,d1⟩:=blk2 HN4.out
         obtain ⟨q0,q1,q2,q3,q4,q5,q6,q7,q8,q9,q10⟩:=zC5 HBG.out
         go_wp2_with (first
          |(go_at_call 62
            with_reducible refine (SN.out _ ?_).mono ?_
            focus (exact HTB.out.below (nl _) (HX4.out))
            rintro e w5 ⟨rfl,hb5⟩
            have HW5:Hid (Below w.heap.size w w5):=HW4.out.trans (hb5.mono HW4.out.size)
            have HB5:Hid (Below w0.heap.size w0 w5):=HB4.out.trans (hb5.mono HB4.out.size)
            have HN5:=LH (HN4.out.call hb5)
            have HG5:=LH (HG4.out.call hb5)
            obtain ⟨d0,d1⟩:=blk2 HN5.out
            obtain ⟨q0,q1,q2,q3,q4,q5,q6,q7,q8,q9,q10⟩:=zC5 HG5.out
            clear hb5)
          |(go_at_call 72
            with_reducible refine (SGL.out _ ?_).mono ?_
            focus (exact HK.out.below (nl _) HW5.out)
            rintro e w6 ⟨rfl,hb6⟩
            have HW6:Hid (Below w.heap.size w w6):=HW5.out.trans (hb6.mono HW5.out.size)
            have HB6:Hid (Below w0.heap.size w0 w6):=HB5.out.trans (hb6.mono HB5.out.size)
            have HN6:=LH (HN5.out.call hb6)
            have HG6:=LH (HG5.out.call hb6)
            obtain ⟨d0,d1⟩:=blk2 HN6.out
            obtain ⟨q0,q1,q2,q3,q4,q5,q6,q7,q8,q9,q10⟩:=zC5 HG6.out
            clear hb6)
          |(go_at_call 71
            with_reducible refine (SFT.out _ ?_).mono ?_
            focus (exact HD.out.below (nl _) HW6.out)
            rintro e w7 ⟨rfl,hb7⟩
            have HW7:Hid (Below w.heap.size w w7):=HW6.out.trans (hb7.mono HW6.out.size)
            have HB7:Hid (Below w0.heap.size w0 w7):=HB6.out.trans (hb7.mono HB6.out.size)
            have HN7:=LH (HN6.out.call hb7)
            have HG7:=LH (HG6.out.call hb7)
            obtain ⟨d0,d1⟩:=blk2 HN7.out
            obtain ⟨q0,q1,q2,q3,q4,q5,q6,q7,q8,q9,q10⟩:=zC5 HG7.out
            clear hb7)
          |(go_at_call 71
            with_reducible refine (SFF.out _ ?_).mono ?_
            focus (exact HD.out.below (nl _) HW7.out)
            rintro e w8 ⟨rfl,hb8⟩
            have HW8:Hid (Below w.heap.size w w8):=HW7.out.trans (hb8.mono HW7.out.size)
            have HB8:Hid (Below w0.heap.size w0 w8):=HB7.out.trans (hb8.mono HB7.out.size)
            have HN8:=LH (HN7.out.call hb8)
            have HG8:=LH (HG7.out.call hb8)
            obtain ⟨d0,d1⟩:=blk2 HN8.out
            obtain ⟨q0,q1,q2,q3,q4,q5,q6,q7,q8,q9,q10⟩:=zC5 HG8.out
            have qk:=HKE.out _ HW8.out
            clear hb8))
         go_roundw
         case rel=>exact ⟨i',HI',rfl,HGD,HB8⟩
         case measure=>exact HMS.out
        ·have hin:i=m:=by have:=Hi.out;omega
         have T0:decide ((i:Int)<(m:Int))=false:=by simp<;> omega
         have T0':decide (i<m)=false:=dF hlt
         obtain rfl:V=true:=by rw [HV.out];exact zA2 ⟨H1.out,H2.out,HGN.out,fun j hj=>HG.out j (by omega)⟩
         clear hlt hin
         go_wp2_with fail
         go_ret
         exact ⟨rfl,HWW.out⟩
end Go.Proofs.YtchakniaoeodmaaGreatDoor

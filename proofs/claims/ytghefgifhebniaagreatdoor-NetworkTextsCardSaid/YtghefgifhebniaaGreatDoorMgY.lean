/- Merged texts of these proofs: SmF, SmQ. -/
import Derived.Test.YtghefgifhebniaaGreatDoorMgS
import Derived.BigRegion
namespace Go.Proofs.YtghefgifhebniaaGreatDoor
open Go.RowKit
set_option linter.unusedVariables false
set_option linter.unusedSimpArgs false
theorem same_r (D D':Nds) (i j:Nat) (w:World) (hA:TabIn w (D.SA i) (D.SN i) (D.SX i) (D.SY i)) (hB:TabIn w (D'.SA j) (D'.SN j) (D'.SX j) (D'.SY j)):Calls Tryz.prog 43 #[.agg (ndA D i),.agg (ndA D' j)] w fun e w'=>e= .returned (.bool (boolOf (zE6 D i=zE6 D' j)))∧Below w.heap.size w w':=by
 have h:=rsameN (D.Nm i) (D.Kd i) (D.Ax i) (D.Ay i) (D.Iv i) (D.Gd i) (D.Pt i) (D.Rs i) (D'.Nm j) (D'.Kd j) (D'.Ax j) (D'.Ay j) (D'.Iv j) (D'.Gd j) (D'.Pt j) (D'.Rs j) (D.SA i) (D.SN i) (D.SC i) (D.SX i) (D.SY i) (D'.SA j) (D'.SN j) (D'.SC j) (D'.SX j) (D'.SY j) w hA hB
 rw [←ndrOf_eq] at h
 exact h
theorem same_k (D D':Lks) (i j:Nat) (w:World) (hA:TabIn w (D.CA i) (D.CN i) (D.CX i) (D.CY i)) (hB:TabIn w (D'.CA j) (D'.CN j) (D'.CX j) (D'.CY j)):Calls Tryz.prog 73 #[.agg (lkA D i),.agg (lkA D' j)] w fun e w'=>e= .returned (.bool (boolOf (zF1 D i=zF1 D' j)))∧Below w.heap.size w w':=by
 have h:=rsameL (D.Nm i) (D.Fr i) (D.To i) (D.Kd i) (D.Ln i) (D.Up i) (D.Dn i) (D.Sc i) (D.Wd i) (D.Ht i) (D'.Nm j) (D'.Fr j) (D'.To j) (D'.Kd j) (D'.Ln j) (D'.Up j) (D'.Dn j) (D'.Sc j) (D'.Wd j) (D'.Ht j) (D.CA i) (D.CN i) (D.CC i) (D.CX i) (D.CY i) (D'.CA j) (D'.CN j) (D'.CC j) (D'.CX j) (D'.CY j) w hA hB
 rw [←lkrOf_eq] at h
 exact h
set_option maxRecDepth 100000 in
set_option maxHeartbeats 16000000 in
theorem rsameNet (NA LA NB LB:Option Addr) (n nc m lc n' nc' m' lc':Nat) (D D':Nds) (K K':Lks) (w:World) (h2:n≤2000) (h3:m≤2000) (hD:NdIn w NA n D) (hK:LkIn w LA m K) (hD':NdIn w NB n' D') (hK':LkIn w LB m' K'):
 Calls Tryz.prog 38 #[.agg #[.slice NA n nc,.slice LA m lc],.agg #[.slice NB n' nc',.slice LB m' lc']] w fun e w'=>e= .returned (.bool (boolOf (netS D n K m D' n' K' m')))∧Below w.heap.size w w':=by
 obtain ⟨f,hf⟩:∃f,Hid (f=boolOf (netS D n K m D' n' K' m')):=⟨_,rfl⟩
 rw [←hf.out]
 have HW:Hid (Below w.heap.size w ((w.alloc (Obj.cells #[.slice NA n nc,.slice LA m lc] 25)).alloc (Obj.cells #[.slice NB n' nc',.slice LB m' lc'] 25))):=((bR _ w).alloc (nl _) _).alloc (by simp) _
 have HX1:Hid (Blk ((w.alloc (Obj.cells #[.slice NA n nc,.slice LA m lc] 25)).alloc (Obj.cells #[.slice NB n' nc',.slice LB m' lc'] 25)) w.heap.size 25 #[.slice NA n nc,.slice LA m lc]):=(Blk.new _ _ _).alloc _
 have HX2:Hid (Blk ((w.alloc (Obj.cells #[.slice NA n nc,.slice LA m lc] 25)).alloc (Obj.cells #[.slice NB n' nc',.slice LB m' lc'] 25)) (w.heap.size+1) 25 #[.slice NB n' nc',.slice LB m' lc']):=by have h:=Blk.new (w.alloc (Obj.cells #[.slice NA n nc,.slice LA m lc] 25)) 25 #[.slice NB n' nc',.slice LB m' lc'];simp at h;exact h
 have HD:=LH hD
 have HD':=LH hD'
 have HK:=LH hK
 have HK':=LH hK'
 have H2:Hid (n≤2000∧m≤2000):=⟨h2,h3⟩
 clear h2 h3 hD hK hD' hK'
 by_cases hnm:n=n'
 case neg=>
  obtain rfl:f=false:=by rw [hf.out];exact zA0 fun h=>hnm (recN_eq.1 h.1).1
  have t1:(n==n')=false:=by simpa using hnm
  have t2:(n !=n')=true:=by simpa using hnm
  have t3:((n:Int)==(n':Int))=false:=by rw [beq_eq_false_iff_ne];omega
  have t4:((n:Int)!=(n':Int))=true:=by simp;omega
  clear hnm hf
  go_enter Tryz.func38,Tryz.ntmps38
  go_upto_region 1 with fail
  generalize (w.alloc (Obj.cells #[.slice NA n nc,.slice LA m lc] 25)).alloc (Obj.cells #[.slice NB n' nc',.slice LB m' lc'] 25)=w1 at HW HX1 HX2⊢
  obtain ⟨y0,y1⟩:=blk2 HX1.out
  obtain ⟨z0,z1⟩:=blk2 HX2.out
  go_wp2_with fail
  go_ret
  exact ⟨rfl,HW.out⟩
 subst hnm
 by_cases hmm:m=m'
 case neg=>
  obtain rfl:f=false:=by rw [hf.out];exact zA0 fun h=>hmm (recL_eq.1 h.2).1
  have t1:(m==m')=false:=by simpa using hmm
  have t2:(m !=m')=true:=by simpa using hmm
  have t3:((m:Int)==(m':Int))=false:=by rw [beq_eq_false_iff_ne];omega
  have t4:((m:Int)!=(m':Int))=true:=by simp;omega
  clear hmm hf
  go_enter Tryz.func38,Tryz.ntmps38
  go_upto_region 1 with fail
  generalize (w.alloc (Obj.cells #[.slice NA n nc,.slice LA m lc] 25)).alloc (Obj.cells #[.slice NB n nc',.slice LB m' lc'] 25)=w1 at HW HX1 HX2⊢
  obtain ⟨y0,y1⟩:=blk2 HX1.out
  obtain ⟨z0,z1⟩:=blk2 HX2.out
  go_wp2_with fail
  go_ret
  exact ⟨rfl,HW.out⟩
 subst hmm
 go_enter Tryz.func38,Tryz.ntmps38
 go_upto_region 1 with fail
 generalize (w.alloc (Obj.cells #[.slice NA n nc,.slice LA m lc] 25)).alloc (Obj.cells #[.slice NB n nc',.slice LB m lc'] 25)=w1 at HW HX1 HX2⊢
 obtain ⟨y0,y1⟩:=blk2 HX1.out
 obtain ⟨z0,z1⟩:=blk2 HX2.out
 go_wp2_with fail
 clear y0 y1 z0 z1
 go_loopw [5] (fun u wr=>∃i:Nat,Hid (i≤n)∧u= .int .i64 i∧Hid (∀j,j<i→zE6 D j=zE6 D' j)∧Hid (Below w.heap.size w wr)∧Hid (Blk wr w.heap.size 25 #[.slice NA n nc,.slice LA m lc])∧Hid (Blk wr (w.heap.size+1) 25 #[.slice NB n nc',.slice LB m lc'])) (fun u _=>n - (RowKit.intOf u).toNat)
 case atStart=>exact ⟨0,Nat.zero_le _,rfl,fun j hj=>absurd hj (Nat.not_lt_zero _),HW.out,HX1.out,HX2.out⟩
 case round=>
  clear HW HX1 HX2
  obtain ⟨i,Hi,rfl,HG,HW,HX1,HX2⟩:=hrel
  obtain ⟨y0,y1⟩:=blk2 HX1.out
  obtain ⟨z0,z1⟩:=blk2 HX2.out
  by_cases hlt:i<n
  ·have T0:decide ((i:Int)<(n:Int))=true:=by simp<;> omega
   have T0':decide (i<n)=true:=dT hlt
   obtain ⟨i',hi'⟩:∃z,z=i+1:=⟨_,rfl⟩
   have x0:IntKind.i64.wrap ((i:Int)+1)=(i':Int):=by have:=H2.out;rw [IntKind.wrap_i64];omega
   have HI':Hid (i'≤n∧i'=i+1):=⟨by omega,hi'⟩
   have HMS:Hid (n - (RowKit.intOf (Value.int .i64 (i':Int))).toNat<n - (RowKit.intOf (Value.int .i64 (i:Int))).toNat):=by show _<_;simp [RowKit.intOf];omega
   have k0:(0:Int)≤(i:Int):=by omega
   have k1:(i:Int)<(n:Int):=by omega
   have HLT:=LH hlt
   obtain ⟨b1,o1,hA1,hb1,hC1,ht1⟩:=(HD.out.below (nl _) HW.out).at hlt
   obtain ⟨b2,o2,hA2,hb2,hC2,ht2⟩:=(HD'.out.below (nl _) HW.out).at hlt
   subst hA1 hA2
   have p0:=hC1 0 _ rfl
   have q0:=hC2 0 _ rfl
   have p1:=hC1 1 _ rfl
   have q1:=hC2 1 _ rfl
   have p2:=hC1 2 _ rfl
   have q2:=hC2 2 _ rfl
   have p3:=hC1 3 _ rfl
   have q3:=hC2 3 _ rfl
   have p4:=hC1 4 _ rfl
   have q4:=hC2 4 _ rfl
   have p5:=hC1 5 _ rfl
   have q5:=hC2 5 _ rfl
   have p6:=hC1 6 _ rfl
   have q6:=hC2 6 _ rfl
   have p7:=hC1 7 _ rfl
   have q7:=hC2 7 _ rfl
   have p8:=hC1 8 _ rfl
   have q8:=hC2 8 _ rfl
   simp only [Nat.add_zero] at p0 q0
   have SQ:Hid (∀w',Below wr.heap.size wr w'→Calls Tryz.prog 43 #[.agg #[.string (D.Nm i),.int .i64 (D.Kd i),.int .i64 (D.Ax i),.int .i64 (D.Ay i),.int .i64 (D.Iv i),.int .i64 (D.Gd i),.slice (D.SA i) (D.SN i) (D.SC i),.bool (D.Pt i),.int .i64 (D.Rs i)],.agg #[.string (D'.Nm i),.int .i64 (D'.Kd i),.int .i64 (D'.Ax i),.int .i64 (D'.Ay i),.int .i64 (D'.Iv i),.int .i64 (D'.Gd i),.slice (D'.SA i) (D'.SN i) (D'.SC i),.bool (D'.Pt i),.int .i64 (D'.Rs i)]] w' fun e w''=>e= .returned (.bool (boolOf (zE6 D i=zE6 D' i)))∧Below w'.heap.size w' w''):=fun w' hb=>same_r D D' i i w' (ht1.below (nl _) hb) (ht2.below (nl _) hb)
   have hs0:wr.cell? ⟨w.heap.size,0,none⟩=some (.slice (some ⟨b1,o1,none⟩) n nc)∧wr.cell? ⟨w.heap.size,1,none⟩=some (.slice LA m lc)∧wr.cell? ⟨w.heap.size+1,0,none⟩=some (.slice (some ⟨b2,o2,none⟩) n nc')∧wr.cell? ⟨w.heap.size+1,1,none⟩=some (.slice LB m lc')∧wr.cell? ⟨b1,o1+i*9,none⟩=some (.string (D.Nm i))∧wr.cell? ⟨b1,o1+i*9+1,none⟩=some (.int .i64 (D.Kd i))∧wr.cell? ⟨b1,o1+i*9+2,none⟩=some (.int .i64 (D.Ax i))∧wr.cell? ⟨b1,o1+i*9+3,none⟩=some (.int .i64 (D.Ay i))∧wr.cell? ⟨b1,o1+i*9+4,none⟩=some (.int .i64 (D.Iv i))∧wr.cell? ⟨b1,o1+i*9+5,none⟩=some (.int .i64 (D.Gd i))∧wr.cell? ⟨b1,o1+i*9+6,none⟩=some (.slice (D.SA i) (D.SN i) (D.SC i))∧wr.cell? ⟨b1,o1+i*9+7,none⟩=some (.bool (D.Pt i))∧wr.cell? ⟨b1,o1+i*9+8,none⟩=some (.int .i64 (D.Rs i))∧wr.cell? ⟨b2,o2+i*9,none⟩=some (.string (D'.Nm i))∧wr.cell? ⟨b2,o2+i*9+1,none⟩=some (.int .i64 (D'.Kd i))∧wr.cell? ⟨b2,o2+i*9+2,none⟩=some (.int .i64 (D'.Ax i))∧wr.cell? ⟨b2,o2+i*9+3,none⟩=some (.int .i64 (D'.Ay i))∧wr.cell? ⟨b2,o2+i*9+4,none⟩=some (.int .i64 (D'.Iv i))∧wr.cell? ⟨b2,o2+i*9+5,none⟩=some (.int .i64 (D'.Gd i))∧wr.cell? ⟨b2,o2+i*9+6,none⟩=some (.slice (D'.SA i) (D'.SN i) (D'.SC i))∧wr.cell? ⟨b2,o2+i*9+7,none⟩=some (.bool (D'.Pt i))∧wr.cell? ⟨b2,o2+i*9+8,none⟩=some (.int .i64 (D'.Rs i)):=⟨y0,y1,z0,z1,p0,p1,p2,p3,p4,p5,p6,p7,p8,q0,q1,q2,q3,q4,q5,q6,q7,q8⟩
   have HS:Hid (∀w',Below wr.heap.size wr w'→w'.cell? ⟨w.heap.size,0,none⟩=some (.slice (some ⟨b1,o1,none⟩) n nc)∧w'.cell? ⟨w.heap.size,1,none⟩=some (.slice LA m lc)∧w'.cell? ⟨w.heap.size+1,0,none⟩=some (.slice (some ⟨b2,o2,none⟩) n nc')∧w'.cell? ⟨w.heap.size+1,1,none⟩=some (.slice LB m lc')∧w'.cell? ⟨b1,o1+i*9,none⟩=some (.string (D.Nm i))∧w'.cell? ⟨b1,o1+i*9+1,none⟩=some (.int .i64 (D.Kd i))∧w'.cell? ⟨b1,o1+i*9+2,none⟩=some (.int .i64 (D.Ax i))∧w'.cell? ⟨b1,o1+i*9+3,none⟩=some (.int .i64 (D.Ay i))∧w'.cell? ⟨b1,o1+i*9+4,none⟩=some (.int .i64 (D.Iv i))∧w'.cell? ⟨b1,o1+i*9+5,none⟩=some (.int .i64 (D.Gd i))∧w'.cell? ⟨b1,o1+i*9+6,none⟩=some (.slice (D.SA i) (D.SN i) (D.SC i))∧w'.cell? ⟨b1,o1+i*9+7,none⟩=some (.bool (D.Pt i))∧w'.cell? ⟨b1,o1+i*9+8,none⟩=some (.int .i64 (D.Rs i))∧w'.cell? ⟨b2,o2+i*9,none⟩=some (.string (D'.Nm i))∧w'.cell? ⟨b2,o2+i*9+1,none⟩=some (.int .i64 (D'.Kd i))∧w'.cell? ⟨b2,o2+i*9+2,none⟩=some (.int .i64 (D'.Ax i))∧w'.cell? ⟨b2,o2+i*9+3,none⟩=some (.int .i64 (D'.Ay i))∧w'.cell? ⟨b2,o2+i*9+4,none⟩=some (.int .i64 (D'.Iv i))∧w'.cell? ⟨b2,o2+i*9+5,none⟩=some (.int .i64 (D'.Gd i))∧w'.cell? ⟨b2,o2+i*9+6,none⟩=some (.slice (D'.SA i) (D'.SN i) (D'.SC i))∧w'.cell? ⟨b2,o2+i*9+7,none⟩=some (.bool (D'.Pt i))∧w'.cell? ⟨b2,o2+i*9+8,none⟩=some (.int .i64 (D'.Rs i))):=fun w' hb=>⟨(HX1.out.call hb).cell 0,(HX1.out.call hb).cell 1,(HX2.out.call hb).cell 0,(HX2.out.call hb).cell 1,(hb.cell (p:=⟨b1,o1+i*9,none⟩) hb1).trans p0,(hb.cell (p:=⟨b1,o1+i*9+1,none⟩) hb1).trans p1,(hb.cell (p:=⟨b1,o1+i*9+2,none⟩) hb1).trans p2,(hb.cell (p:=⟨b1,o1+i*9+3,none⟩) hb1).trans p3,(hb.cell (p:=⟨b1,o1+i*9+4,none⟩) hb1).trans p4,(hb.cell (p:=⟨b1,o1+i*9+5,none⟩) hb1).trans p5,(hb.cell (p:=⟨b1,o1+i*9+6,none⟩) hb1).trans p6,(hb.cell (p:=⟨b1,o1+i*9+7,none⟩) hb1).trans p7,(hb.cell (p:=⟨b1,o1+i*9+8,none⟩) hb1).trans p8,(hb.cell (p:=⟨b2,o2+i*9,none⟩) hb2).trans q0,(hb.cell (p:=⟨b2,o2+i*9+1,none⟩) hb2).trans q1,(hb.cell (p:=⟨b2,o2+i*9+2,none⟩) hb2).trans q2,(hb.cell (p:=⟨b2,o2+i*9+3,none⟩) hb2).trans q3,(hb.cell (p:=⟨b2,o2+i*9+4,none⟩) hb2).trans q4,(hb.cell (p:=⟨b2,o2+i*9+5,none⟩) hb2).trans q5,(hb.cell (p:=⟨b2,o2+i*9+6,none⟩) hb2).trans q6,(hb.cell (p:=⟨b2,o2+i*9+7,none⟩) hb2).trans q7,(hb.cell (p:=⟨b2,o2+i*9+8,none⟩) hb2).trans q8⟩
   have HST:Hid (zE6 D i=zE6 D' i→∀j,j<i'→zE6 D j=zE6 D' j):=fun h j hj=>by
        rcases Nat.lt_or_ge j i with g |g
        ·exact HG.out j g
        ·have:j=i:=by have:=HI'.out.2;omega
         rw [this];exact h
   have HNO:Hid (¬(zE6 D i=zE6 D' i)→f=false):=fun h=>by
        rw [hf.out];exact zA0 fun g=>h ((recN_eq.1 g.1).2 i HLT.out)
   obtain ⟨v,hv⟩:∃v,boolOf (zE6 D i=zE6 D' i)=v:=⟨_,rfl⟩
   rw [hv] at SQ
   have HV:=LH hv
   clear hi' hlt hC1 hC2 ht1 ht2 p0 q0 p1 q1 p2 q2 p3 q3 p4 q4 p5 q5 p6 q6 p7 q7 p8 q8 hb1 hb2 hv
   cases v with
   |false=>
    go_wp2_with fail
    go_region_held3 (fun w'=>w'.cell? ⟨w.heap.size,0,none⟩=some (.slice (some ⟨b1,o1,none⟩) n nc)∧w'.cell? ⟨w.heap.size,1,none⟩=some (.slice LA m lc)∧w'.cell? ⟨w.heap.size+1,0,none⟩=some (.slice (some ⟨b2,o2,none⟩) n nc')∧w'.cell? ⟨w.heap.size+1,1,none⟩=some (.slice LB m lc')∧w'.cell? ⟨b1,o1+i*9,none⟩=some (.string (D.Nm i))∧w'.cell? ⟨b1,o1+i*9+1,none⟩=some (.int .i64 (D.Kd i))∧w'.cell? ⟨b1,o1+i*9+2,none⟩=some (.int .i64 (D.Ax i))∧w'.cell? ⟨b1,o1+i*9+3,none⟩=some (.int .i64 (D.Ay i))∧w'.cell? ⟨b1,o1+i*9+4,none⟩=some (.int .i64 (D.Iv i))∧w'.cell? ⟨b1,o1+i*9+5,none⟩=some (.int .i64 (D.Gd i))∧w'.cell? ⟨b1,o1+i*9+6,none⟩=some (.slice (D.SA i) (D.SN i) (D.SC i))∧w'.cell? ⟨b1,o1+i*9+7,none⟩=some (.bool (D.Pt i))∧w'.cell? ⟨b1,o1+i*9+8,none⟩=some (.int .i64 (D.Rs i))∧w'.cell? ⟨b2,o2+i*9,none⟩=some (.string (D'.Nm i))∧w'.cell? ⟨b2,o2+i*9+1,none⟩=some (.int .i64 (D'.Kd i))∧w'.cell? ⟨b2,o2+i*9+2,none⟩=some (.int .i64 (D'.Ax i))∧w'.cell? ⟨b2,o2+i*9+3,none⟩=some (.int .i64 (D'.Ay i))∧w'.cell? ⟨b2,o2+i*9+4,none⟩=some (.int .i64 (D'.Iv i))∧w'.cell? ⟨b2,o2+i*9+5,none⟩=some (.int .i64 (D'.Gd i))∧w'.cell? ⟨b2,o2+i*9+6,none⟩=some (.slice (D'.SA i) (D'.SN i) (D'.SC i))∧w'.cell? ⟨b2,o2+i*9+7,none⟩=some (.bool (D'.Pt i))∧w'.cell? ⟨b2,o2+i*9+8,none⟩=some (.int .i64 (D'.Rs i))) (first
     |exact hs0
     |exact HS.out _ hq
     |exact HS.out _ hq.drew
     |exact HS.out _ (bR _ wr).drew) (first
     |(go_at_call 43
       with_reducible refine (SQ.out _ ?_).mono ?_
       focus (first |exact bR _ _ |exact (bR _ _).drew)
       rintro e w5 ⟨rfl,hb5⟩
       have hq:Below wr.heap.size wr w5:=by first |exact hb5 |exact (bR _ wr).drew.trans hb5
       have HQ:=LH hq
       clear hb5))
    all_goals
     obtain rfl:f=false:=HNO.out (fun h=>by have h2:=HV.out;rw [zA2 h] at h2;cases h2)
     clear hs0 y0 y1 z0 z1
     go_wp2_with fail
     go_ret
     exact ⟨rfl,zA1 HW.out HQ.out⟩
   |true=>
    go_wp2_with fail
    go_region_held3 (fun w'=>w'.cell? ⟨w.heap.size,0,none⟩=some (.slice (some ⟨b1,o1,none⟩) n nc)∧w'.cell? ⟨w.heap.size,1,none⟩=some (.slice LA m lc)∧w'.cell? ⟨w.heap.size+1,0,none⟩=some (.slice (some ⟨b2,o2,none⟩) n nc')∧w'.cell? ⟨w.heap.size+1,1,none⟩=some (.slice LB m lc')∧w'.cell? ⟨b1,o1+i*9,none⟩=some (.string (D.Nm i))∧w'.cell? ⟨b1,o1+i*9+1,none⟩=some (.int .i64 (D.Kd i))∧w'.cell? ⟨b1,o1+i*9+2,none⟩=some (.int .i64 (D.Ax i))∧w'.cell? ⟨b1,o1+i*9+3,none⟩=some (.int .i64 (D.Ay i))∧w'.cell? ⟨b1,o1+i*9+4,none⟩=some (.int .i64 (D.Iv i))∧w'.cell? ⟨b1,o1+i*9+5,none⟩=some (.int .i64 (D.Gd i))∧w'.cell? ⟨b1,o1+i*9+6,none⟩=some (.slice (D.SA i) (D.SN i) (D.SC i))∧w'.cell? ⟨b1,o1+i*9+7,none⟩=some (.bool (D.Pt i))∧w'.cell? ⟨b1,o1+i*9+8,none⟩=some (.int .i64 (D.Rs i))∧w'.cell? ⟨b2,o2+i*9,none⟩=some (.string (D'.Nm i))∧w'.cell? ⟨b2,o2+i*9+1,none⟩=some (.int .i64 (D'.Kd i))∧w'.cell? ⟨b2,o2+i*9+2,none⟩=some (.int .i64 (D'.Ax i))∧w'.cell? ⟨b2,o2+i*9+3,none⟩=some (.int .i64 (D'.Ay i))∧w'.cell? ⟨b2,o2+i*9+4,none⟩=some (.int .i64 (D'.Iv i))∧w'.cell? ⟨b2,o2+i*9+5,none⟩=some (.int .i64 (D'.Gd i))∧w'.cell? ⟨b2,o2+i*9+6,none⟩=some (.slice (D'.SA i) (D'.SN i) (D'.SC i))∧w'.cell? ⟨b2,o2+i*9+7,none⟩=some (.bool (D'.Pt i))∧w'.cell? ⟨b2,o2+i*9+8,none⟩=some (.int .i64 (D'.Rs i))) (first
     |exact hs0
     |exact HS.out _ hq
     |exact HS.out _ hq.drew
     |exact HS.out _ (bR _ wr).drew) (first
     |(go_at_call 43
       with_reducible refine (SQ.out _ ?_).mono ?_
       focus (first |exact bR _ _ |exact (bR _ _).drew)
       rintro e w5 ⟨rfl,hb5⟩
       have hq:Below wr.heap.size wr w5:=by first |exact hb5 |exact (bR _ wr).drew.trans hb5
       have HQ:=LH hq
       clear hb5))
    all_goals
     clear hs0 y0 y1 z0 z1
     go_wp2_with fail
     go_roundw
     case rel=>exact ⟨i',HI'.out.1,rfl,HST.out (zJ4 HV.out),zA1 HW.out HQ.out,HX1.out.call HQ.out,HX2.out.call HQ.out⟩
     case measure=>exact HMS.out
  ·have hin:i=n:=by have:=Hi.out;omega
   have T0:decide ((i:Int)<(n:Int))=false:=by simp<;> omega
   have T0':decide (i<n)=false:=dF hlt
   have HED:Hid (recN D n=recN D' n):=recN_eq.2 ⟨rfl,by rw [←hin];exact HG.out⟩
   clear hlt hin HG Hi
   go_wp2_with fail
   clear T0 T0' y0 y1 z0 z1
   obtain ⟨wz,hwz⟩:∃wz:World,wz=wr:=⟨_,rfl⟩
   go_loopw [6] (fun u wr=>∃i:Nat,Hid (i≤m)∧u= .int .i64 i∧Hid (∀j,j<i→zF1 K j=zF1 K' j)∧Hid (Below w.heap.size w wr)∧Hid (Blk wr w.heap.size 25 #[.slice NA n nc,.slice LA m lc])∧Hid (Blk wr (w.heap.size+1) 25 #[.slice NB n nc',.slice LB m lc'])) (fun u _=>m - (RowKit.intOf u).toNat)
   case atStart=>exact ⟨0,Nat.zero_le _,rfl,fun j hj=>absurd hj (Nat.not_lt_zero _),HW.out,HX1.out,HX2.out⟩
   case round=>
        clear HW HX1 HX2
        obtain ⟨i,Hi,rfl,HG,HW,HX1,HX2⟩:=hrel
        obtain ⟨y0,y1⟩:=blk2 HX1.out
        obtain ⟨z0,z1⟩:=blk2 HX2.out
        by_cases hlt:i<m
        ·have T0:decide ((i:Int)<(m:Int))=true:=by simp<;> omega
         have T0':decide (i<m)=true:=dT hlt
         obtain ⟨i',hi'⟩:∃z,z=i+1:=⟨_,rfl⟩
         have x0:IntKind.i64.wrap ((i:Int)+1)=(i':Int):=by have:=H2.out;rw [IntKind.wrap_i64];omega
         have HI':Hid (i'≤m∧i'=i+1):=⟨by omega,hi'⟩
         have HMS:Hid (m - (RowKit.intOf (Value.int .i64 (i':Int))).toNat<m - (RowKit.intOf (Value.int .i64 (i:Int))).toNat):=by show _<_;simp [RowKit.intOf];omega
         have k0:(0:Int)≤(i:Int):=by omega
         have k1:(i:Int)<(m:Int):=by omega
         have HLT:=LH hlt
         obtain ⟨b1,o1,hA1,hb1,hC1,ht1⟩:=(HK.out.below (nl _) HW.out).at hlt
         obtain ⟨b2,o2,hA2,hb2,hC2,ht2⟩:=(HK'.out.below (nl _) HW.out).at hlt
         subst hA1 hA2
         have p0:=hC1 0 _ rfl
         have q0:=hC2 0 _ rfl
         have p1:=hC1 1 _ rfl
         have q1:=hC2 1 _ rfl
         have p2:=hC1 2 _ rfl
         have q2:=hC2 2 _ rfl
         have p3:=hC1 3 _ rfl
         have q3:=hC2 3 _ rfl
         have p4:=hC1 4 _ rfl
         have q4:=hC2 4 _ rfl
         have p5:=hC1 5 _ rfl
         have q5:=hC2 5 _ rfl
         have p6:=hC1 6 _ rfl
         have q6:=hC2 6 _ rfl
         have p7:=hC1 7 _ rfl
         have q7:=hC2 7 _ rfl
         have p8:=hC1 8 _ rfl
         have q8:=hC2 8 _ rfl
         have p9:=hC1 9 _ rfl
         have q9:=hC2 9 _ rfl
         have p10:=hC1 10 _ rfl
         have q10:=hC2 10 _ rfl
         simp only [Nat.add_zero] at p0 q0
         have SQ:Hid (∀w',Below wr.heap.size wr w'→Calls Tryz.prog 73 #[.agg #[.string (K.Nm i),.string (K.Fr i),.string (K.To i),.int .i64 (K.Kd i),.int .i64 (K.Ln i),.int .i64 (K.Up i),.int .i64 (K.Dn i),.string (K.Sc i),.int .i64 (K.Wd i),.int .i64 (K.Ht i),.slice (K.CA i) (K.CN i) (K.CC i)],.agg #[.string (K'.Nm i),.string (K'.Fr i),.string (K'.To i),.int .i64 (K'.Kd i),.int .i64 (K'.Ln i),.int .i64 (K'.Up i),.int .i64 (K'.Dn i),.string (K'.Sc i),.int .i64 (K'.Wd i),.int .i64 (K'.Ht i),.slice (K'.CA i) (K'.CN i) (K'.CC i)]] w' fun e w''=>e= .returned (.bool (boolOf (zF1 K i=zF1 K' i)))∧Below w'.heap.size w' w''):=fun w' hb=>same_k K K' i i w' (ht1.below (nl _) hb) (ht2.below (nl _) hb)
         have hs0:wr.cell? ⟨w.heap.size,0,none⟩=some (.slice NA n nc)∧wr.cell? ⟨w.heap.size,1,none⟩=some (.slice (some ⟨b1,o1,none⟩) m lc)∧wr.cell? ⟨w.heap.size+1,0,none⟩=some (.slice NB n nc')∧wr.cell? ⟨w.heap.size+1,1,none⟩=some (.slice (some ⟨b2,o2,none⟩) m lc')∧wr.cell? ⟨b1,o1+i*11,none⟩=some (.string (K.Nm i))∧wr.cell? ⟨b1,o1+i*11+1,none⟩=some (.string (K.Fr i))∧wr.cell? ⟨b1,o1+i*11+2,none⟩=some (.string (K.To i))∧wr.cell? ⟨b1,o1+i*11+3,none⟩=some (.int .i64 (K.Kd i))∧wr.cell? ⟨b1,o1+i*11+4,none⟩=some (.int .i64 (K.Ln i))∧wr.cell? ⟨b1,o1+i*11+5,none⟩=some (.int .i64 (K.Up i))∧wr.cell? ⟨b1,o1+i*11+6,none⟩=some (.int .i64 (K.Dn i))∧wr.cell? ⟨b1,o1+i*11+7,none⟩=some (.string (K.Sc i))∧wr.cell? ⟨b1,o1+i*11+8,none⟩=some (.int .i64 (K.Wd i))∧wr.cell? ⟨b1,o1+i*11+9,none⟩=some (.int .i64 (K.Ht i))∧wr.cell? ⟨b1,o1+i*11+10,none⟩=some (.slice (K.CA i) (K.CN i) (K.CC i))∧wr.cell? ⟨b2,o2+i*11,none⟩=some (.string (K'.Nm i))∧wr.cell? ⟨b2,o2+i*11+1,none⟩=some (.string (K'.Fr i))∧wr.cell? ⟨b2,o2+i*11+2,none⟩=some (.string (K'.To i))∧wr.cell? ⟨b2,o2+i*11+3,none⟩=some (.int .i64 (K'.Kd i))∧wr.cell? ⟨b2,o2+i*11+4,none⟩=some (.int .i64 (K'.Ln i))∧wr.cell? ⟨b2,o2+i*11+5,none⟩=some (.int .i64 (K'.Up i))∧wr.cell? ⟨b2,o2+i*11+6,none⟩=some (.int .i64 (K'.Dn i))∧wr.cell? ⟨b2,o2+i*11+7,none⟩=some (.string (K'.Sc i))∧wr.cell? ⟨b2,o2+i*11+8,none⟩=some (.int .i64 (K'.Wd i))∧wr.cell? ⟨b2,o2+i*11+9,none⟩=some (.int .i64 (K'.Ht i))∧wr.cell? ⟨b2,o2+i*11+10,none⟩=some (.slice (K'.CA i) (K'.CN i) (K'.CC i)):=⟨y0,y1,z0,z1,p0,p1,p2,p3,p4,p5,p6,p7,p8,p9,p10,q0,q1,q2,q3,q4,q5,q6,q7,q8,q9,q10⟩
         have HS:Hid (∀w',Below wr.heap.size wr w'→w'.cell? ⟨w.heap.size,0,none⟩=some (.slice NA n nc)∧w'.cell? ⟨w.heap.size,1,none⟩=some (.slice (some ⟨b1,o1,none⟩) m lc)∧w'.cell? ⟨w.heap.size+1,0,none⟩=some (.slice NB n nc')∧w'.cell? ⟨w.heap.size+1,1,none⟩=some (.slice (some ⟨b2,o2,none⟩) m lc')∧w'.cell? ⟨b1,o1+i*11,none⟩=some (.string (K.Nm i))∧w'.cell? ⟨b1,o1+i*11+1,none⟩=some (.string (K.Fr i))∧w'.cell? ⟨b1,o1+i*11+2,none⟩=some (.string (K.To i))∧w'.cell? ⟨b1,o1+i*11+3,none⟩=some (.int .i64 (K.Kd i))∧w'.cell? ⟨b1,o1+i*11+4,none⟩=some (.int .i64 (K.Ln i))∧w'.cell? ⟨b1,o1+i*11+5,none⟩=some (.int .i64 (K.Up i))∧w'.cell? ⟨b1,o1+i*11+6,none⟩=some (.int .i64 (K.Dn i))∧w'.cell? ⟨b1,o1+i*11+7,none⟩=some (.string (K.Sc i))∧w'.cell? ⟨b1,o1+i*11+8,none⟩=some (.int .i64 (K.Wd i))∧w'.cell? ⟨b1,o1+i*11+9,none⟩=some (.int .i64 (K.Ht i))∧w'.cell? ⟨b1,o1+i*11+10,none⟩=some (.slice (K.CA i) (K.CN i) (K.CC i))∧w'.cell? ⟨b2,o2+i*11,none⟩=some (.string (K'.Nm i))∧w'.cell? ⟨b2,o2+i*11+1,none⟩=some (.string (K'.Fr i))∧w'.cell? ⟨b2,o2+i*11+2,none⟩=some (.string (K'.To i))∧w'.cell? ⟨b2,o2+i*11+3,none⟩=some (.int .i64 (K'.Kd i))∧w'.cell? ⟨b2,o2+i*11+4,none⟩=some (.int .i64 (K'.Ln i))∧w'.cell? ⟨b2,o2+i*11+5,none⟩=some (.int .i64 (K'.Up i))∧w'.cell? ⟨b2,o2+i*11+6,none⟩=some (.int .i64 (K'.Dn i))∧w'.cell? ⟨b2,o2+i*11+7,none⟩=some (.string (K'.Sc i))∧w'.cell? ⟨b2,o2+i*11+8,none⟩=some (.int .i64 (K'.Wd i))∧w'.cell? ⟨b2,o2+i*11+9,none⟩=some (.int .i64 (K'.Ht i))∧w'.cell? ⟨b2,o2+i*11+10,none⟩=some (.slice (K'.CA i) (K'.CN i) (K'.CC i))):=fun w' hb=>⟨(HX1.out.call hb).cell 0,(HX1.out.call hb).cell 1,(HX2.out.call hb).cell 0,(HX2.out.call hb).cell 1,(hb.cell (p:=⟨b1,o1+i*11,none⟩) hb1).trans p0,(hb.cell (p:=⟨b1,o1+i*11+1,none⟩) hb1).trans p1,(hb.cell (p:=⟨b1,o1+i*11+2,none⟩) hb1).trans p2,(hb.cell (p:=⟨b1,o1+i*11+3,none⟩) hb1).trans p3,(hb.cell (p:=⟨b1,o1+i*11+4,none⟩) hb1).trans p4,(hb.cell (p:=⟨b1,o1+i*11+5,none⟩) hb1).trans p5,(hb.cell (p:=⟨b1,o1+i*11+6,none⟩) hb1).trans p6,(hb.cell (p:=⟨b1,o1+i*11+7,none⟩) hb1).trans p7,(hb.cell (p:=⟨b1,o1+i*11+8,none⟩) hb1).trans p8,(hb.cell (p:=⟨b1,o1+i*11+9,none⟩) hb1).trans p9,(hb.cell (p:=⟨b1,o1+i*11+10,none⟩) hb1).trans p10,(hb.cell (p:=⟨b2,o2+i*11,none⟩) hb2).trans q0,(hb.cell (p:=⟨b2,o2+i*11+1,none⟩) hb2).trans q1,(hb.cell (p:=⟨b2,o2+i*11+2,none⟩) hb2).trans q2,(hb.cell (p:=⟨b2,o2+i*11+3,none⟩) hb2).trans q3,(hb.cell (p:=⟨b2,o2+i*11+4,none⟩) hb2).trans q4,(hb.cell (p:=⟨b2,o2+i*11+5,none⟩) hb2).trans q5,(hb.cell (p:=⟨b2,o2+i*11+6,none⟩) hb2).trans q6,(hb.cell (p:=⟨b2,o2+i*11+7,none⟩) hb2).trans q7,(hb.cell (p:=⟨b2,o2+i*11+8,none⟩) hb2).trans q8,(hb.cell (p:=⟨b2,o2+i*11+9,none⟩) hb2).trans q9,(hb.cell (p:=⟨b2,o2+i*11+10,none⟩) hb2).trans q10⟩
         have HST:Hid (zF1 K i=zF1 K' i→∀j,j<i'→zF1 K j=zF1 K' j):=fun h j hj=>by
          rcases Nat.lt_or_ge j i with g |g
          ·exact HG.out j g
          ·have:j=i:=by have:=HI'.out.2;omega
           rw [this];exact h
         have HNO:Hid (¬(zF1 K i=zF1 K' i)→f=false):=fun h=>by
          rw [hf.out];exact zA0 fun g=>h ((recL_eq.1 g.2).2 i HLT.out)
         obtain ⟨v,hv⟩:∃v,boolOf (zF1 K i=zF1 K' i)=v:=⟨_,rfl⟩
         rw [hv] at SQ
         have HV:=LH hv
         clear hi' hlt hC1 hC2 ht1 ht2 p0 q0 p1 q1 p2 q2 p3 q3 p4 q4 p5 q5 p6 q6 p7 q7 p8 q8 p9 q9 p10 q10 hb1 hb2 hv
         cases v with
         |false=>
          go_wp2_with fail
          go_region_held3 (fun w'=>w'.cell? ⟨w.heap.size,0,none⟩=some (.slice NA n nc)∧w'.cell? ⟨w.heap.size,1,none⟩=some (.slice (some ⟨b1,o1,none⟩) m lc)∧w'.cell? ⟨w.heap.size+1,0,none⟩=some (.slice NB n nc')∧w'.cell? ⟨w.heap.size+1,1,none⟩=some (.slice (some ⟨b2,o2,none⟩) m lc')∧w'.cell? ⟨b1,o1+i*11,none⟩=some (.string (K.Nm i))∧w'.cell? ⟨b1,o1+i*11+1,none⟩=some (.string (K.Fr i))∧w'.cell? ⟨b1,o1+i*11+2,none⟩=some (.string (K.To i))∧w'.cell? ⟨b1,o1+i*11+3,none⟩=some (.int .i64 (K.Kd i))∧w'.cell? ⟨b1,o1+i*11+4,none⟩=some (.int .i64 (K.Ln i))∧w'.cell? ⟨b1,o1+i*11+5,none⟩=some (.int .i64 (K.Up i))∧w'.cell? ⟨b1,o1+i*11+6,none⟩=some (.int .i64 (K.Dn i))∧w'.cell? ⟨b1,o1+i*11+7,none⟩=some (.string (K.Sc i))∧w'.cell? ⟨b1,o1+i*11+8,none⟩=some (.int .i64 (K.Wd i))∧w'.cell? ⟨b1,o1+i*11+9,none⟩=some (.int .i64 (K.Ht i))∧w'.cell? ⟨b1,o1+i*11+10,none⟩=some (.slice (K.CA i) (K.CN i) (K.CC i))∧w'.cell? ⟨b2,o2+i*11,none⟩=some (.string (K'.Nm i))∧w'.cell? ⟨b2,o2+i*11+1,none⟩=some (.string (K'.Fr i))∧w'.cell? ⟨b2,o2+i*11+2,none⟩=some (.string (K'.To i))∧w'.cell? ⟨b2,o2+i*11+3,none⟩=some (.int .i64 (K'.Kd i))∧w'.cell? ⟨b2,o2+i*11+4,none⟩=some (.int .i64 (K'.Ln i))∧w'.cell? ⟨b2,o2+i*11+5,none⟩=some (.int .i64 (K'.Up i))∧w'.cell? ⟨b2,o2+i*11+6,none⟩=some (.int .i64 (K'.Dn i))∧w'.cell? ⟨b2,o2+i*11+7,none⟩=some (.string (K'.Sc i))∧w'.cell? ⟨b2,o2+i*11+8,none⟩=some (.int .i64 (K'.Wd i))∧w'.cell? ⟨b2,o2+i*11+9,none⟩=some (.int .i64 (K'.Ht i))∧w'.cell? ⟨b2,o2+i*11+10,none⟩=some (.slice (K'.CA i) (K'.CN i) (K'.CC i))) (first
           |exact hs0
           |exact HS.out _ hq
           |exact HS.out _ hq.drew
           |exact HS.out _ (bR _ wr).drew) (first
           |(go_at_call 73
             with_reducible refine (SQ.out _ ?_).mono ?_
             focus (first |exact bR _ _ |exact (bR _ _).drew)
             rintro e w5 ⟨rfl,hb5⟩
             have hq:Below wr.heap.size wr w5:=by first |exact hb5 |exact (bR _ wr).drew.trans hb5
             have HQ:=LH hq
             clear hb5))
          all_goals
           obtain rfl:f=false:=HNO.out (fun h=>by have h2:=HV.out;rw [zA2 h] at h2;cases h2)
           clear hs0 y0 y1 z0 z1
           go_wp2_with fail
           go_ret
           exact ⟨rfl,zA1 HW.out HQ.out⟩
         |true=>
          go_wp2_with fail
          go_region_held3 (fun w'=>w'.cell? ⟨w.heap.size,0,none⟩=some (.slice NA n nc)∧w'.cell? ⟨w.heap.size,1,none⟩=some (.slice (some ⟨b1,o1,none⟩) m lc)∧w'.cell? ⟨w.heap.size+1,0,none⟩=some (.slice NB n nc')∧w'.cell? ⟨w.heap.size+1,1,none⟩=some (.slice (some ⟨b2,o2,none⟩) m lc')∧w'.cell? ⟨b1,o1+i*11,none⟩=some (.string (K.Nm i))∧w'.cell? ⟨b1,o1+i*11+1,none⟩=some (.string (K.Fr i))∧w'.cell? ⟨b1,o1+i*11+2,none⟩=some (.string (K.To i))∧w'.cell? ⟨b1,o1+i*11+3,none⟩=some (.int .i64 (K.Kd i))∧w'.cell? ⟨b1,o1+i*11+4,none⟩=some (.int .i64 (K.Ln i))∧w'.cell? ⟨b1,o1+i*11+5,none⟩=some (.int .i64 (K.Up i))∧w'.cell? ⟨b1,o1+i*11+6,none⟩=some (.int .i64 (K.Dn i))∧w'.cell? ⟨b1,o1+i*11+7,none⟩=some (.string (K.Sc i))∧w'.cell? ⟨b1,o1+i*11+8,none⟩=some (.int .i64 (K.Wd i))∧w'.cell? ⟨b1,o1+i*11+9,none⟩=some (.int .i64 (K.Ht i))∧w'.cell? ⟨b1,o1+i*11+10,none⟩=some (.slice (K.CA i) (K.CN i) (K.CC i))∧w'.cell? ⟨b2,o2+i*11,none⟩=some (.string (K'.Nm i))∧w'.cell? ⟨b2,o2+i*11+1,none⟩=some (.string (K'.Fr i))∧w'.cell? ⟨b2,o2+i*11+2,none⟩=some (.string (K'.To i))∧w'.cell? ⟨b2,o2+i*11+3,none⟩=some (.int .i64 (K'.Kd i))∧w'.cell? ⟨b2,o2+i*11+4,none⟩=some (.int .i64 (K'.Ln i))∧w'.cell? ⟨b2,o2+i*11+5,none⟩=some (.int .i64 (K'.Up i))∧w'.cell? ⟨b2,o2+i*11+6,none⟩=some (.int .i64 (K'.Dn i))∧w'.cell? ⟨b2,o2+i*11+7,none⟩=some (.string (K'.Sc i))∧w'.cell? ⟨b2,o2+i*11+8,none⟩=some (.int .i64 (K'.Wd i))∧w'.cell? ⟨b2,o2+i*11+9,none⟩=some (.int .i64 (K'.Ht i))∧w'.cell? ⟨b2,o2+i*11+10,none⟩=some (.slice (K'.CA i) (K'.CN i) (K'.CC i))) (first
           |exact hs0
           |exact HS.out _ hq
           |exact HS.out _ hq.drew
           |exact HS.out _ (bR _ wr).drew) (first
           |(go_at_call 73
             with_reducible refine (SQ.out _ ?_).mono ?_
             focus (first |exact bR _ _ |exact (bR _ _).drew)
             rintro e w5 ⟨rfl,hb5⟩
             have hq:Below wr.heap.size wr w5:=by first |exact hb5 |exact (bR _ wr).drew.trans hb5
             have HQ:=LH hq
             clear hb5))
          all_goals
           clear hs0 y0 y1 z0 z1
           go_wp2_with fail
           go_roundw
           case rel=>exact ⟨i',HI'.out.1,rfl,HST.out (zJ4 HV.out),zA1 HW.out HQ.out,HX1.out.call HQ.out,HX2.out.call HQ.out⟩
           case measure=>exact HMS.out
        ·have hin:i=m:=by have:=Hi.out;omega
         have T0:decide ((i:Int)<(m:Int))=false:=by simp<;> omega
         have T0':decide (i<m)=false:=dF hlt
         have HEK:Hid (recL K m=recL K' m):=recL_eq.2 ⟨rfl,by rw [←hin];exact HG.out⟩
         clear hlt hin HG Hi
         obtain rfl:f=true:=by rw [hf.out];exact zA2 ⟨HED.out,HEK.out⟩
         go_wp2_with fail
         go_ret
         exact ⟨rfl,HW.out⟩
end Go.Proofs.YtghefgifhebniaaGreatDoor

/- Merged texts of these proofs: DgX, DgV, DgR. -/
import Derived.Test.YtghefgifhebniaaGreatDoorMgN
import Derived.Test.YtghefgifhebniaaGreatDoorMgP
import Derived.Test.YtghefgifhebniaaGreatDoorMgZ
namespace Go.Proofs.YtghefgifhebniaaGreatDoor
open Go.RowKit Go.Sort
set_option linter.unusedVariables false
set_option linter.unusedSimpArgs false
theorem infoI:(Tryz.prog.info? 3).map (fun i=>(i.zero,i.size,i.bytes))=some (some (.int .i64 0),1,8):=by kernel_rfl
theorem infoIs:(Tryz.prog.info? 32).map (fun i=>(i.zero,i.size,i.bytes))=some (some (.slice none 0 0),1,24):=by kernel_rfl
theorem h63_n {n:Nat} (h:n≤2000):n+1≤maxLen:=by simp only [maxLen];omega
theorem hby_n {n:Nat} (h:n≤2000):(n+1)*8≤140737488355328:=by omega
def NextPost (n:Nat) (X Y:Nat→Int) (m:Nat) (w:World) (e:Ending) (w':World):Prop:=∃b,e= .returned (.slice (some ⟨b,0,none⟩) n n)∧w.heap.size≤b∧AfIn w' b n (fun i=>nx X Y m (i:Int))∧Below w.heap.size w w'
theorem zA3 {w:World} {g:Nat} {t:TypeId} {a b:Value} (h:Blk w g t #[a,b]):w.cell? ⟨g,0,none⟩=some a∧w.cell? ⟨g,1,none⟩=some b:=⟨h.cell 0,h.cell 1⟩
set_option maxRecDepth 100000 in
set_option maxHeartbeats 4000000 in
theorem dnext (A:Option Addr) (n m c:Nat) (X Y:Nat→Int) (w:World) (hn:n≤300) (hm:m≤1000) (hE:EdOK n X Y m) (ht:TabIn w A m X Y):
 Calls Tryz.prog 92 #[.int .i64 n,.slice A m c] w (NextPost n X Y m w):=by
 obtain ⟨i0,hi0,hz0,hz1,hz2⟩:=zA8 infoI
 have HI0:=LH hi0
 have HZ0:=LH hz0
 have HZ1:=LH hz1
 have HZ2:=LH hz2
 have HN:=LH hn
 have HM:=LH hm
 have HE:=LH hE
 have HT:=LH ht
 have hmk:=mk_run 124 32 n 24 (.slice none 0 0) infoIs Tryz.underlying124 rfl (by omega) (by omega)
 obtain ⟨Z,hZ⟩:∃Z,((List.range n).map fun _=>Value.slice none 0 0).toArray=Z:=⟨_,rfl⟩
 rw [hZ] at hmk
 have HZ:=LH hZ
 clear hi0 hz0 hz1 hz2 hn hm hE ht hZ
 go_enter Tryz.func92,Tryz.ntmps92
 go_wp2_with fail
 clear hmk
 have HR0:Hid (NRow (w.heap.size+1) (w.alloc (Obj.cells Z 32)) w.heap.size n (fun _=>.slice none 0 0) (fun i=>tgt X Y 0 (i:Int))):=by
  refine ⟨?_,by omega,fun i hi=>World.ownsRow_nil _ _ _ _,fun i j g hi hj e=>?_⟩
  ·rw [HZ.out];exact Blk.new _ _ _
  ·simp [Value.ownBlock] at e
 go_loopw [13] (fun x wr=>∃(k:Nat) (V:Nat→Value),x= .int .i64 k∧Hid (k≤m)∧Hid (NRow (w.heap.size+1) wr w.heap.size n V (fun i=>tgt X Y k (i:Int)))∧Hid (Below w.heap.size w wr)) (fun x _=>m - (RowKit.intOf x).toNat)
 case atStart=>exact ⟨0,_,rfl,Nat.zero_le _,HR0,(bR _ w).alloc (nl _) _⟩
 case round=>
  obtain ⟨k,V,rfl,Hk,HR,HW⟩:=hrel
  by_cases hlt:k<m
  ·have T0:decide ((k:Int)<(m:Int))=true:=by simp<;> omega
   have T0':decide (k<m)=true:=dT hlt
   obtain ⟨k',hk'⟩:∃z,z=k+1:=⟨_,rfl⟩
   have x0:IntKind.i64.wrap ((k:Int)+1)=(k':Int):=by have:=HM.out;rw [IntKind.wrap_i64];omega
   have HK':Hid (k'≤m∧k'=k+1):=⟨by omega,hk'⟩
   have HMS:Hid (m - (RowKit.intOf (Value.int .i64 (k':Int))).toNat<m - (RowKit.intOf (Value.int .i64 (k:Int))).toNat):=by show _<_;simp [RowKit.intOf];omega
   have k0:(0:Int)≤(k:Int):=by omega
   have k1:(k:Int)<(m:Int):=by omega
   obtain ⟨b,off,hA,hb,c0,c1⟩:=(HT.out.below (nl _) HW.out).at hlt
   subst hA
   have hx:=HE.out.x k hlt
   obtain ⟨x,hxx⟩:∃x:Nat,X k=(x:Int):=⟨(X k).toNat,by omega⟩
   obtain ⟨y,hyy⟩:∃y:Int,Y k=y:=⟨_,rfl⟩
   rw [hxx] at c0
   rw [hyy] at c1
   have hxn:x<n:=by omega
   have HXX:Hid (X k=(x:Int)∧Y k=y):=⟨hxx,hyy⟩
   have x1:(0:Int)≤(x:Int):=by omega
   have x2:(x:Int)<(n:Int):=by omega
   obtain ⟨vx,hvx⟩:∃v,V x=v:=⟨_,rfl⟩
   have HVX:=LH hvx
   have hk2:tgt X Y k (x:Int)=tgt X Y k (x:Int):=rfl
   obtain ⟨N,hN⟩:∃N,(tgt X Y k (x:Int)).length=N:=⟨_,rfl⟩
   have HNN:=LH hN
   have HN2:Hid (N≤2000):=by show N≤2000;have:=tgt_len X Y k (x:Int);have:=HM.out;have:=Hk.out;omega
   clear hk' hxx hyy hx hvx hk2 hN
   go_upto_region 5 with fail
   have hal:Below wr.heap.size wr (wr.alloc (Obj.cells #[.int .i64 (x:Int),.int .i64 y] 38)):=(bR _ wr).alloc (nl _) _
   have HBG:Hid (Blk (wr.alloc (Obj.cells #[.int .i64 (x:Int),.int .i64 y] 38)) wr.heap.size 38 #[.int .i64 (x:Int),.int .i64 y]):=Blk.new _ _ _
   have HR4:=LH (HR.out.call hal)
   have HW4:=LH (zA1 HW.out hal)
   have HSZ:Hid (w.heap.size<wr.heap.size):=HR.out.blk.lt
   clear hal c0 c1 hb HR HW
   generalize wr.alloc (Obj.cells _ 38)=w4 at HBG HR4 HW4⊢
   generalize wr.heap.size=G at HBG HSZ⊢
   have HXN:=LH hxn
   have hr:=HR4.out.row x hxn
   rw [HVX.out,HNN.out] at hr
   have HO:=LH hr
   have hs0:w4.cell? ⟨G,0,none⟩=some (.int .i64 (x:Int))∧w4.cell? ⟨G,1,none⟩=some (.int .i64 y):=zA3 HBG.out
   have c4:w4.cell? ⟨w.heap.size,x,none⟩=some vx:=by rw [HR4.out.cell hxn,HVX.out]
   have c5:(w4.alloc (Obj.cells #[.int .i64 y] 3)).cell? ⟨w.heap.size,x,none⟩=some vx:=(((bR w4.heap.size w4).alloc (nl _) _).cell (p:=⟨w.heap.size,x,none⟩) HR4.out.blk.lt).trans c4
   have HS:Hid (∀w',Below w4.heap.size w4 w'→w'.cell? ⟨G,0,none⟩=some (.int .i64 (x:Int))∧w'.cell? ⟨G,1,none⟩=some (.int .i64 y)):=fun w' hb=>⟨(hb.cell (p:=⟨_,0,none⟩) HBG.out.lt).trans hs0.1,(hb.cell (p:=⟨_,1,none⟩) HBG.out.lt).trans hs0.2⟩
   have hne:G≠w.heap.size:=Nat.ne_of_gt HSZ.out
   clear hr
   have hs1:=(HS.out _ ((bR _ w4).alloc (nl _) (Obj.cells #[.int .i64 y] 3))).1
   have hs2:=(HS.out _ ((bR _ w4).alloc (nl _) (Obj.cells #[.int .i64 y] 3))).2
   have hs3:=hs0.1
   have hs4:=hs0.2
   go_region_law (first
        |((refine step_append_lies _ (by rfl) _ _ _ (by rfl) (w.heap.size+1) 3 i0 (.int .i64 0) 1 8 Tryz.underlying32 HI0.out HZ0.out HZ1.out HZ2.out rfl (by omega) vx N (ic (tgt X Y k (x:Int))) (by rfl) (HO.out.alloc _) ⟨w4.heap.size,0,none⟩ 1 1 [.int .i64 y] (by rfl) (by rfl) (World.news_of_block (cs:=#[.int .i64 y]) (t:=3) (fr:=(0,0)) (heap_alloc_new w4 _)) (by simp [Value.oneCell']) (by omega) (h63_n HN2.out) (hby_n HN2.out) (zA9 (nT HSZ.out (Nat.le_of_lt HBG.out.lt)) _) (w4.heap.size+1) (by simp) ?_
           intro gg capg wA hownA hgrowA hatA hltA
           have hgB:(w4.alloc (Obj.cells #[.int .i64 y] 3)).grownBy wA vx.ownBlock:=⟨hgrowA.os,hgrowA.tape,hgrowA.output,hgrowA.size,hgrowA.block⟩
           have HGR:=LH hgB
           have HOW:=LH hownA
           have HAT:=LH hatA
           have q1:Blk wA G 38 #[.int .i64 (x:Int),.int .i64 y]:=(HBG.out.alloc _).grown hgB (fun e=>zE2 HO.out HBG.out (by decide) e.symm)
           have q2:=((HR4.out.blk).alloc (Obj.cells #[.int .i64 y] 3)).grown hgB (fun e=>zE2 HO.out HR4.out.blk (by decide) e.symm)
           obtain ⟨y01,y02⟩:=zA3 q1
           obtain ⟨y11,y12⟩:=zA3 (q1.far (p:=⟨w.heap.size,x,none⟩) hne (.slice (some ⟨gg,0,none⟩) (N+1) capg))
           have yf:=q2.frozen x
           have yc:=q2.cell x
           rw [←HR4.out.blk.cell x,c4] at yc
           clear hownA hgrowA hatA hltA hgB q1 q2)))
   all_goals
        go_wp2_with fail
        go_roundw
        case rel=>
         have hal:Below w4.heap.size w4 (w4.alloc (Obj.cells #[.int .i64 y] 3)):=(bR _ w4).alloc (nl _) _
         have h5:=HR4.out.call hal
         have hgr:=HGR.out
         rw [←HVX.out] at hgr
         have h6:=h5.turn (H:=(w4.alloc (Obj.cells #[.int .i64 y] 3)).heap.size) HXN.out (nl _) hgr (v':=.slice (some ⟨gg,0,none⟩) (N+1) capg) (k:=N+1) (L:=tgt X Y k (x:Int)++[y]) (by rw [zH7];exact HOW.out) (by rw [List.length_append,HNN.out];rfl) (by
          rw [HVX.out]
          rcases HAT.out with h |h
          ·exact .inl (by rw [h];rfl)
          ·exact .inr (by rw [h];simp [Value.ownBlock]))
         refine ⟨k',_,rfl,HK'.out.1,h6.congr fun i hi=>?_,?_⟩
         ·rw [HK'.out.2,tgt_succ,HXX.out.1,HXX.out.2]
          by_cases e:i=x
          ·rw [if_pos e,if_pos (by rw [e]),e]
          ·rw [if_neg e,if_neg (by omega),List.append_nil]
         ·refine Below.setCell ?_ (p:=⟨w.heap.size,x,none⟩) (nl _) _
          exact zB9 (HW4.out.alloc (by have:=HSZ.out;have:=HBG.out.lt;omega) _) (by have:=HSZ.out;have:=HBG.out.lt;simp;omega) hgr (fun g e=>by have:=h5.low HXN.out e;show w.heap.size≤g;omega)
        case measure=>exact HMS.out
  ·have e:k=m:=by have:=Hk.out;omega
   have T0:decide ((k:Int)<(m:Int))=false:=by simp<;> omega
   have T0':decide (k<m)=false:=dF hlt
   subst e
   clear hlt HR0
   go_wp2_with fail
   obtain ⟨w0,hw0⟩:∃w0:World,w0=wr:=⟨_,rfl⟩
   go_loopw [33] (fun x wr=>∃(j:Nat) (V:Nat→Value),x= .int .i64 j∧Hid (j≤n)∧Hid (NRow (w.heap.size+1) wr w.heap.size n V (fun i=>if i<j then nx X Y k (i:Int) else tgt X Y k (i:Int)))∧Hid (Below w.heap.size w wr)) (fun x _=>n - (RowKit.intOf x).toNat)
   case atStart=>exact ⟨0,V,rfl,Nat.zero_le _,HR.out.congr (fun i hi=>by rw [if_neg (by omega)]),HW.out⟩
   case round=>
        clear hw0 HR HW
        obtain ⟨j,V,rfl,Hj,HR,HW⟩:=hrel
        by_cases hlt:j<n
        ·have T0:decide ((j:Int)<(n:Int))=true:=by simp<;> omega
         have T0':decide (j<n)=true:=dT hlt
         obtain ⟨j',hj'⟩:∃z,z=j+1:=⟨_,rfl⟩
         have x0:IntKind.i64.wrap ((j:Int)+1)=(j':Int):=by have:=HN.out;rw [IntKind.wrap_i64];omega
         have HJ':Hid (j'≤n∧j'=j+1):=⟨by omega,hj'⟩
         have HMS:Hid (n - (RowKit.intOf (Value.int .i64 (j':Int))).toNat<n - (RowKit.intOf (Value.int .i64 (j:Int))).toNat):=by show _<_;simp [RowKit.intOf];omega
         have k0:(0:Int)≤(j:Int):=by omega
         have k1:(j:Int)<(n:Int):=by omega
         have c0:=HR.out.cell hlt
         have HLT:=LH hlt
         obtain ⟨vx,hvx⟩:∃v,V j=v:=⟨_,rfl⟩
         rw [hvx] at c0
         have HVX:=LH hvx
         have hr:=HR.out.row j hlt
         simp only [Nat.lt_irrefl,if_false] at hr
         rw [hvx] at hr
         have HL:Hid ((tgt X Y k (j:Int)).length≤1000):=nT (tgt_len X Y k _) HM.out
         have S1:=LH (gsort (w.heap.size+1) wr vx _ (tgt X Y k (j:Int)) rfl hr HL.out)
         clear hj' hvx hr hlt
         go_wp2_with (first
          |(go_at_call 135
            with_reducible refine S1.out.mono ?_
            rintro e w5 ⟨rfl,ho5,hg5⟩
            have hg5':=hg5
            rw [←HVX.out] at hg5' ho5
            have h5:=HR.out.inplace HLT.out hg5' ho5 (by simp)
            have HR5:=LH h5
            have HW5:=LH (zB9 HW.out HW.out.size hg5' (fun g e=>by have:=HR.out.low HLT.out e;omega))
            have c5:=h5.cell HLT.out
            have r5:=h5.row j HLT.out
            simp only [if_true] at r5
            rw [HVX.out] at c5 r5
            have S2:=LH (gcompact (w.heap.size+1) w5 vx _ _ rfl r5 (by simpa using HL.out))
            clear ho5 hg5 hg5' h5 r5 c0)
          |(go_at_call 136
            with_reducible refine S2.out.mono ?_
            rintro e w6 ⟨u6,rfl,ho6,hg6,ha6⟩
            obtain ⟨A6,p6,rfl⟩:=zE5 ho6
            have HO6:=LH ho6
            have HG6:=LH hg6
            have HA6:=LH ha6
            have q2:=HR5.out.blk.grown hg6 (fun e=>by
             have e2:=(HVX.out ▸ e.symm:(V j).ownBlock=some w.heap.size)
             have:=HR5.out.low HLT.out e2
             omega)
            have c6:=q2.cell j
            have f6:=q2.frozen j
            rw [←HR5.out.blk.cell j] at c6
            rw [c5] at c6
            clear ho6 hg6 ha6 q2))
         go_roundw
         case rel=>
          have hg6:=HG6.out
          rw [←HVX.out] at hg6
          have h6:=HR5.out.turn (H:=w5.heap.size) HLT.out (nl _) hg6 HO6.out rfl (.inl (by rw [HVX.out];exact HA6.out))
          refine ⟨j',_,rfl,HJ'.out.1,h6.congr fun i hi=>?_,?_⟩
          ·rw [HJ'.out.2]
           by_cases e:i=j
           ·rw [if_pos e,if_pos (by omega),e];rfl
           ·rw [if_neg e,if_neg e]
            by_cases e2:i<j
            ·rw [if_pos e2,if_pos (by omega)]
            ·rw [if_neg e2,if_neg (by omega)]
          ·refine Below.setCell ?_ (p:=⟨w.heap.size,j,none⟩) (nl _) _
           exact zB9 HW5.out HW5.out.size hg6 (fun g e=>by have:=HR5.out.low HLT.out e;show w.heap.size≤g;omega)
         case measure=>exact HMS.out
        ·have e:j=n:=by have:=Hj.out;omega
         have T0:decide ((j:Int)<(n:Int))=false:=by simp<;> omega
         have T0':decide (j<n)=false:=dF hlt
         have HJE:=LH e
         clear hlt e
         go_wp2_with fail
         go_ret
         refine ⟨w.heap.size,rfl,nl _,?_,HW.out⟩
         exact (HR.out.congr fun i hi=>by rw [HJE.out,if_pos hi]).reads
open Go.RowKit
theorem dg_is (n:Nat) (x:Int) (h0:0≤x) (h1:x<n) (w:World):Calls Tryz.prog 134 #[.int .i64 n,.int .i64 x] w fun e w'=>e= .returned (.bool true)∧w'=w:=by
 have t0:decide ((0:Int)≤x)=true:=dT h0
 have t1:decide (x<(n:Int))=true:=dT h1
 go_enter Tryz.func134,Tryz.ntmps134
 go_wp2_with fail
 go_ret
 exact ⟨rfl,rfl⟩
theorem dg_v1 (n g:Nat) (x y:Int) (hx:0≤x∧x<n) (hy:0≤y∧y<n) (w:World) (hg:w.cell? ⟨g,0,none⟩=some (.int .i64 n)) (hl:g<w.heap.size):
 Calls Tryz.prog 133 #[.agg #[.int .i64 x,.int .i64 y],.pointer (some ⟨g,0,none⟩)] w fun e w'=>e= .returned (.bool false)∧Below w.heap.size w w':=by
 have S1:=LH fun w=>dg_is n x hx.1 hx.2 w
 have S2:=LH fun w=>dg_is n y hy.1 hy.2 w
 clear hx hy
 go_enter Tryz.func133,Tryz.ntmps133
 go_wp2_with (first |(go_at_call 134;(with_reducible refine (S1.out _).mono ?_);rintro e w' ⟨rfl,rfl⟩)|(go_at_call 134;(with_reducible refine (S2.out _).mono ?_);rintro e w' ⟨rfl,rfl⟩))
 go_ret
 exact ⟨rfl,bel⟩
set_option maxRecDepth 100000 in
set_option maxHeartbeats 2000000 in
theorem dg_find (A:Option Addr) (n g m c:Nat) (X Y:Nat→Int) (w:World) (hm:m≤1000) (hE:EdOK n X Y m) (ht:TabIn w A m X Y) (hg:w.cell? ⟨g,0,none⟩=some (.int .i64 n)) (hl:g<w.heap.size):
 Calls Tryz.prog 165 #[.slice A m c,.func (.func 133) #[] #[.pointer (some ⟨g,0,none⟩)]] w fun e w'=>e= .returned (.int .i64 (-1))∧Below w.heap.size w w':=by
 have HT:=LH ht
 have HE:=LH hE
 have HM:=LH hm
 have HG:Hid (∀w',Below w.heap.size w w'→w'.cell? ⟨g,0,none⟩=some (.int .i64 n)∧g<w'.heap.size):=fun w' hb=>⟨(hb.cell (p:=⟨g,0,none⟩) hl).trans hg,Nat.lt_of_lt_of_le hl hb.size⟩
 clear ht hE hm hg hl
 go_enter Tryz.func165,Tryz.ntmps165
 go_wp2_with fail
 go_loopw [8] (fun u wr=>∃i:Nat,Hid (i≤m)∧u= .int .i64 i∧Hid (Below w.heap.size w wr)) (fun u _=>m - (RowKit.intOf u).toNat)
 case atStart=>exact ⟨0,Nat.zero_le _,rfl,bR _ _⟩
 case round=>
  obtain ⟨i,Hi,rfl,HW⟩:=hrel
  by_cases hlt:i<m
  ·have T0:decide ((i:Int)<(m:Int))=true:=by simp<;> omega
   have T0':decide (i<m)=true:=dT hlt
   obtain ⟨i',hi'⟩:∃z,z=i+1:=⟨_,rfl⟩
   have x0:IntKind.i64.wrap ((i:Int)+1)=(i':Int):=by have:=HM.out;rw [IntKind.wrap_i64];omega
   obtain ⟨b,off,rfl,hb,c0,c1⟩:=(HT.out.below (nl _) HW.out).at hlt
   have k0:(0:Int)≤(i:Int):=by omega
   have k1:(i:Int)<(m:Int):=by omega
   have HI':Hid (i'≤m):=by show _≤_;omega
   have HMS:Hid (m - (RowKit.intOf (Value.int .i64 (i':Int))).toNat<m - (RowKit.intOf (Value.int .i64 (i:Int))).toNat):=by show _<_;simp [RowKit.intOf];omega
   have KK:Hid (∀w',Below w.heap.size w w'→Calls Tryz.prog 133 #[.agg #[.int .i64 (X i),.int .i64 (Y i)],.pointer (some ⟨g,0,none⟩)] w' fun e w''=>e= .returned (.bool false)∧Below w'.heap.size w' w''):=fun w' hb=>dg_v1 n g (X i) (Y i) (HE.out.x i hlt) (HE.out.y i hlt) w' (HG.out w' hb).1 (HG.out w' hb).2
   clear hi' hlt
   go_wp2_with (first
        |(go_at_call 133
          with_reducible refine (KK.out _ ?_).mono ?_
          focus (have:=HW.out;exact bel)
          rintro e w1 ⟨rfl,hb1⟩
          have HW1:Hid (Below w.heap.size w w1):=by show Below _ _ _;have:=HW.out;exact bel
          clear hb1))
   go_roundw
   case rel=>exact ⟨i',HI',rfl,HW1⟩
   case measure=>exact HMS.out
  ·have T0:decide ((i:Int)<(m:Int))=false:=by simp<;> omega
   have T0':decide (i<m)=false:=dF hlt
   clear hlt
   go_wp2_with fail
   go_ret
   exact ⟨rfl,HW.out⟩
theorem dg_has (A:Option Addr) (n g m c:Nat) (X Y:Nat→Int) (w:World) (hm:m≤1000) (hE:EdOK n X Y m) (ht:TabIn w A m X Y) (hg:w.cell? ⟨g,0,none⟩=some (.int .i64 n)) (hl:g<w.heap.size):
 Calls Tryz.prog 132 #[.slice A m c,.func (.func 133) #[] #[.pointer (some ⟨g,0,none⟩)]] w fun e w'=>e= .returned (.bool false)∧Below w.heap.size w w':=by
 have S:=LH (dg_find A n g m c X Y w hm hE ht hg hl)
 clear hE ht hg hl hm
 go_enter Tryz.func132,Tryz.ntmps132
 go_wp2_with (first |(go_at_call 165;(with_reducible refine (S.out).mono ?_);rintro e w1 ⟨rfl,hb1⟩;obtain ⟨hc1,hf1⟩:=zA4 hb1;have hz1:=hb1.size;(try simp at hz1);(try simp only [heap_drew,World.heap_drewN] at hz1 hc1 hf1);(try have y0:w.heap.size<w1.heap.size:=by omega)))
 go_ret
 exact ⟨rfl,bel⟩
theorem dg_valid (A:Option Addr) (n m c:Nat) (X Y:Nat→Int) (w:World) (hn:n≤300) (hm:m≤1000) (hE:EdOK n X Y m) (ht:TabIn w A m X Y):
 Calls Tryz.prog 91 #[.int .i64 n,.slice A m c] w fun e w'=>e= .returned (.bool true)∧Below w.heap.size w w':=by
 have S:Hid (∀w' g,Below w.heap.size w w'→w'.cell? ⟨g,0,none⟩=some (.int .i64 n)→g<w'.heap.size→Calls Tryz.prog 132 #[.slice A m c,.func (.func 133) #[] #[.pointer (some ⟨g,0,none⟩)]] w' fun e w''=>e= .returned (.bool false)∧Below w'.heap.size w' w''):=fun w' g hb hg hl=>dg_has A n g m c X Y w' hm hE (ht.below (nl _) hb) hg hl
 have t0:decide ((n:Int)<0)=false:=dF (by omega)
 have t1:decide ((300:Int)<(n:Int))=false:=dF (by omega)
 have t2:decide ((1000:Int)<(m:Int))=false:=dF (by omega)
 have t1':decide (300<n)=false:=dF (by omega)
 have t2':decide (1000<m)=false:=dF (by omega)
 clear hE ht hm hn
 go_enter Tryz.func91,Tryz.ntmps91
 go_wp2_with (first
  |(go_at_call 132
    with_reducible refine (S.out _ _ ?_ ?_ ?_).mono ?_
    focus (exact (bR _ w).alloc (nl _) _)
    focus (simp)
    focus (simp)
    rintro e w1 ⟨rfl,hb1⟩
    have HW1:Hid (Below w.heap.size w w1):=((bR _ w).alloc (nl _) _).trans (hb1.mono (by simp))
    clear hb1))
 go_ret
 exact ⟨rfl,HW1.out⟩
theorem dg_r1 (n g:Nat) (x:Int) (hx:0≤x∧x<n) (w:World) (hg:w.cell? ⟨g,0,none⟩=some (.int .i64 n)) (hl:g<w.heap.size):
 Calls Tryz.prog 146 #[.int .i64 x,.pointer (some ⟨g,0,none⟩)] w fun e w'=>e= .returned (.bool false)∧Below w.heap.size w w':=by
 have S1:=LH fun w=>dg_is n x hx.1 hx.2 w
 clear hx
 go_enter Tryz.func146,Tryz.ntmps146
 go_wp2_with (first |(go_at_call 134;(with_reducible refine (S1.out _).mono ?_);rintro e w' ⟨rfl,rfl⟩))
 go_ret
 exact ⟨rfl,bel⟩
set_option maxRecDepth 100000 in
set_option maxHeartbeats 2000000 in
theorem dg_findr (A:Option Addr) (n g m c:Nat) (C:Nat→Int) (w:World) (hm:m≤1000) (hE:∀k,k<m→0≤C k∧C k<n) (ht:IntIn w A m C) (hg:w.cell? ⟨g,0,none⟩=some (.int .i64 n)) (hl:g<w.heap.size):
 Calls Tryz.prog 138 #[.slice A m c,.func (.func 146) #[] #[.pointer (some ⟨g,0,none⟩)]] w fun e w'=>e= .returned (.int .i64 (-1))∧Below w.heap.size w w':=by
 have HT:=LH ht
 have HE:=LH hE
 have HM:=LH hm
 have HG:Hid (∀w',Below w.heap.size w w'→w'.cell? ⟨g,0,none⟩=some (.int .i64 n)∧g<w'.heap.size):=fun w' hb=>⟨(hb.cell (p:=⟨g,0,none⟩) hl).trans hg,Nat.lt_of_lt_of_le hl hb.size⟩
 clear ht hE hm hg hl
 go_enter Tryz.func138,Tryz.ntmps138
 go_wp2_with fail
 go_loopw [8] (fun u wr=>∃i:Nat,Hid (i≤m)∧u= .int .i64 i∧Hid (Below w.heap.size w wr)) (fun u _=>m - (RowKit.intOf u).toNat)
 case atStart=>exact ⟨0,Nat.zero_le _,rfl,bR _ _⟩
 case round=>
  obtain ⟨i,Hi,rfl,HW⟩:=hrel
  by_cases hlt:i<m
  ·have T0:decide ((i:Int)<(m:Int))=true:=by simp<;> omega
   have T0':decide (i<m)=true:=dT hlt
   obtain ⟨i',hi'⟩:∃z,z=i+1:=⟨_,rfl⟩
   have x0:IntKind.i64.wrap ((i:Int)+1)=(i':Int):=by have:=HM.out;rw [IntKind.wrap_i64];omega
   obtain ⟨b,off,rfl,hb,c0⟩:=(HT.out.below (nl _) HW.out).at hlt
   have k0:(0:Int)≤(i:Int):=by omega
   have k1:(i:Int)<(m:Int):=by omega
   have HI':Hid (i'≤m):=by show _≤_;omega
   have HMS:Hid (m - (RowKit.intOf (Value.int .i64 (i':Int))).toNat<m - (RowKit.intOf (Value.int .i64 (i:Int))).toNat):=by show _<_;simp [RowKit.intOf];omega
   have KK:Hid (∀w',Below w.heap.size w w'→Calls Tryz.prog 146 #[.int .i64 (C i),.pointer (some ⟨g,0,none⟩)] w' fun e w''=>e= .returned (.bool false)∧Below w'.heap.size w' w''):=fun w' hb=>dg_r1 n g (C i) (HE.out i hlt) w' (HG.out w' hb).1 (HG.out w' hb).2
   clear hi' hlt
   go_wp2_with (first
        |(go_at_call 146
          with_reducible refine (KK.out _ ?_).mono ?_
          focus (have:=HW.out;exact bel)
          rintro e w1 ⟨rfl,hb1⟩
          have HW1:Hid (Below w.heap.size w w1):=by show Below _ _ _;have:=HW.out;exact bel
          clear hb1))
   go_roundw
   case rel=>exact ⟨i',HI',rfl,HW1⟩
   case measure=>exact HMS.out
  ·have T0:decide ((i:Int)<(m:Int))=false:=by simp<;> omega
   have T0':decide (i<m)=false:=dF hlt
   clear hlt
   go_wp2_with fail
   go_ret
   exact ⟨rfl,HW.out⟩
theorem dg_hasr (A:Option Addr) (n g m c:Nat) (C:Nat→Int) (w:World) (hm:m≤1000) (hE:∀k,k<m→0≤C k∧C k<n) (ht:IntIn w A m C) (hg:w.cell? ⟨g,0,none⟩=some (.int .i64 n)) (hl:g<w.heap.size):
 Calls Tryz.prog 145 #[.slice A m c,.func (.func 146) #[] #[.pointer (some ⟨g,0,none⟩)]] w fun e w'=>e= .returned (.bool false)∧Below w.heap.size w w':=by
 have S:=LH (dg_findr A n g m c C w hm hE ht hg hl)
 clear hE ht hg hl hm
 go_enter Tryz.func145,Tryz.ntmps145
 go_wp2_with (first |(go_at_call 138;(with_reducible refine (S.out).mono ?_);rintro e w1 ⟨rfl,hb1⟩;obtain ⟨hc1,hf1⟩:=zA4 hb1;have hz1:=hb1.size;(try simp at hz1);(try simp only [heap_drew,World.heap_drewN] at hz1 hc1 hf1);(try have y0:w.heap.size<w1.heap.size:=by omega)))
 go_ret
 exact ⟨rfl,bel⟩
theorem infoB:(Tryz.prog.info? 4).map (fun i=>(i.zero,i.size,i.bytes))=some (some (.bool false),1,1):=by kernel_rfl
def bcs (n:Nat) (o:Nat→Bool):Array Value:=((List.range n).map fun v=>Value.bool (o v)).toArray
theorem bcs_at {n v:Nat} {o:Nat→Bool} (h:v<n):(bcs n o)[v]?=some (.bool (o v)):=by simp [bcs,h]
def bset (o:Nat→Bool) (i:Nat):Nat→Bool:=fun v=>o v || decide (v=i)
theorem bcs_set (n:Nat) (o:Nat→Bool) (i:Nat):(bcs n o).setIfInBounds i (.bool true)=bcs n (bset o i):=by
 unfold bcs
 have h:=upd_map n (fun v=>Value.bool (o v)) i (.bool true)
 rw [h]
 congr 1
 apply List.map_congr_left
 intro v _
 unfold bset
 by_cases e:v=i<;> simp [e]
def cntF (n:Nat) (o:Nat→Bool):Nat:=((List.range n).filter fun v=>!(o v)).length
theorem cntF_le (n:Nat) (o:Nat→Bool):cntF n o≤n:=by
 unfold cntF
 exact nT (List.length_filter_le _ _) (by simp)
theorem cntF_set {o:Nat→Bool} {i:Nat} (ho:o i=false):∀n,cntF n (bset o i)+(if i<n then 1 else 0)=cntF n o:=by
 intro n
 induction n with
 |zero=>simp [cntF]
 |succ n ih=>
  have e:∀p:Nat→Bool,cntF (n+1) p=cntF n p+(if p n=true then 0 else 1):=fun p=>by
   unfold cntF
   rw [List.range_succ,List.filter_append,List.length_append]
   cases h:p n<;> simp [h]
  rw [e,e,←ih]
  by_cases h:n=i
  ·subst h
   have h1:bset o n n=true:=by simp [bset]
   rw [h1,ho];simp
  ·have h1:bset o i n=o n:=by simp [bset,h]
   rw [h1]
   by_cases h2:i<n
   ·rw [if_pos h2,if_pos (show i<n+1 by omega)];omega
   ·rw [if_neg h2,if_neg (show¬i<n+1 by omega)];omega
def BlAt (w:World) (b n:Nat) (o:Nat→Bool):Prop:=b<w.heap.size∧∀v,v<n→w.cell? ⟨b,v,none⟩=some (.bool (o v))
theorem BlAt.below {w w':World} {b n:Nat} {o:Nat→Bool} (h:BlAt w b n o) (hb:Below w.heap.size w w'):BlAt w' b n o:=
 ⟨Nat.lt_of_lt_of_le h.1 hb.size,fun v hv=>(hb.cell (p:=⟨b,v,none⟩) h.1).trans (h.2 v hv)⟩
theorem blk_bl {w:World} {b n:Nat} {o:Nat→Bool} (h:Blk w b 4 (bcs n o)):BlAt w b n o:=⟨h.lt,fun v hv=>by rw [h.cell v];exact bcs_at hv⟩
theorem run_app_zero (A0:Option Addr) (N cap:Nat) (hN:N≤cap) (A:Option Addr) (c:Nat) (ty:TypeId) (w:World):(Builtin.append_ #[32,32] ty #[.slice A0 N cap,.slice A 0 c]).run Tryz.prog w= .ok (.slice A0 N cap) w:=by
 obtain ⟨i0,hi,hz0,hs0,hby⟩:=zA8 infoI
 cases A<;> cases A0<;> simp [Builtin.append_,run_underlying Tryz.underlying32,sizeOf,typeInfo,hi,Builtin.lenOf,Builtin.firstCells,loadCells,loadCellsFrom,storeCells,hN]
theorem own_pop {w:World} {B N1 N g cap:Nat} {St:List Int} {z:Int} (hN:N1=N+1) (h:w.ownsRow B 3 1 (.slice (some ⟨g,0,none⟩) N1 cap) N1 (ic (St++[z]))):w.ownsRow B 3 1 (.slice (some ⟨g,0,none⟩) N cap) N (ic St)∧N=St.length∧w.cell? ⟨g,N,none⟩=some (.int .i64 z)∧N+1≤cap:=by
 subst hN
 have hl:N=St.length:=by have:=h.1;rw [zE8,List.length_append,List.length_singleton] at this;omega
 rcases h.2 with ⟨hv,_⟩|⟨g',cap',cur,hv,hg,hb,hnc,hcm,hs,ht⟩
 ·cases hv
 ·cases hv
  refine ⟨⟨by rw [zE8,hl,Nat.mul_one],.inr ⟨g,cap,cur,rfl,hg,hb,by omega,hcm,hs,?_⟩⟩,hl,?_,hnc⟩
  ·rw [Nat.mul_one] at ht⊢
   have h2:(cur.toList.take (N+1)).take N=ic St:=by
        rw [ht,zH7,hl,←zE8 St]
        exact List.take_left
   rwa [List.take_take,Nat.min_eq_left (by omega)] at h2
  ·rw [h.cellAt N (by omega),zH7,hl,←zE8 St]
   simp [ic]
theorem app_len {n k:Nat} (h:n≤400000) (h2:k≤1000):n+k≤maxLen:=by simp only [maxLen];omega
theorem app_by {n k:Nat} (h:n≤400000) (h2:k≤1000):(n+k)*8≤140737488355328:=by omega
def ReachPost (n:Nat) (X Y:Nat→Int) (m:Nat) (S:Int→Prop) (w:World) (e:Ending) (w':World):Prop:=
 ∃(O:Nat) (o:Nat→Bool),e= .returned (.slice (some ⟨O,0,none⟩) n n)∧w.heap.size≤O∧BlAt w' O n o∧(∀v,v<n→(o v=true↔Rch X Y m S (v:Int)))∧Below w.heap.size w w'
def srcP (f:Nat) (C:Nat→Int) (z:Int):Prop:=∃j,j<f∧C j=z
theorem list_snoc {α:Type} {L:List α} {N:Nat} (h:L.length=N+1):∃M z,L=M++[z]:=by
 rcases List.eq_nil_or_concat L with e |⟨M,z,e⟩
 ·rw [e] at h;simp at h
 ·exact ⟨M,z,by rw [e,List.concat_eq_append]⟩
theorem RcI.drop {X Y:Nat→Int} {m:Nat} {S:Int→Prop} {o:Nat→Bool} {st:List Int} (h:RcI X Y m S o st):RcI X Y m S o st:=h
theorem rch_bd {n:Nat} {X Y:Nat→Int} {m:Nat} {S:Int→Prop} (hE:EdOK n X Y m) (hS:∀z,S z→0≤z∧z<n) {z:Int} (h:Rch X Y m S z):0≤z∧z<n:=h.closed (P:=fun z=>0≤z∧z<n) hS (fun k hk _=>hE.y k hk)
theorem bset_or (o:Nat→Bool) (i:Nat):∀v,bset o i v=(o v || decide (v=i)):=fun v=>rfl
set_option maxRecDepth 100000 in
set_option maxHeartbeats 4000000 in
theorem dreach (b n m:Nat) (A:Option Addr) (f c:Nat) (X Y C:Nat→Int) (w:World) (hn:n≤300) (hm:m≤1000) (hf:f≤1000) (hE:EdOK n X Y m) (hA:AfIn w b n (fun i=>nx X Y m (i:Int))) (hF:IntIn w A f C) (hC:∀j,j<f→0≤C j∧C j<n):
 Calls Tryz.prog 147 #[.slice (some ⟨b,0,none⟩) n n,.slice A f c] w (ReachPost n X Y m (srcP f C) w):=by
 obtain ⟨i0,hi0,hz0,hz1,hz2⟩:=zA8 infoI
 have HI0:=LH hi0
 have HZ0:=LH hz0
 have HZ1:=LH hz1
 have HZ2:=LH hz2
 have HN:=LH hn
 have HM:=LH hm
 have HE:=LH hE
 have HA:=LH hA
 have HSB:Hid (∀z,srcP f C z→0≤z∧z<n):=fun z ⟨j,hj,e⟩=>by have:=hC j hj;omega
 have hmk:=mk_run 47 4 n 1 (.bool false) infoB Tryz.underlying47 rfl (by omega) (by omega)
 obtain ⟨Z,hZ⟩:∃Z,((List.range n).map fun _=>Value.bool false).toArray=Z:=⟨_,rfl⟩
 rw [hZ] at hmk
 have HZ:Hid (Z=bcs n fun _=>false):=hZ.symm
 -- the stack at the start
 have SC:Hid (∀w',Below w.heap.size w w'→Calls Tryz.prog 174 #[.slice A f c] w' fun e w''=>∃u,e= .returned u∧w''.ownsRow w'.heap.size 3 1 u f (ic ((List.range f).map C))∧Below w'.heap.size w' w''):=by
  intro w' hb
  by_cases h0:f=0
  ·rw [h0]
   cases A with
   |none=>
    refine (Tryz.slices_Clone_int_nil 0 c w').mono ?_
    rintro e w'' ⟨rfl,rfl⟩
    exact ⟨_,rfl,World.ownsRow_nil _ _ _ _,bR _ _⟩
   |some a=>
    refine (Tryz.slices_Clone_int_zero a c w').mono ?_
    rintro e w'' ⟨v',rfl,h2,_,h3⟩
    exact ⟨v',rfl,h2,h3⟩
  ·have ht:=hF.below (nl _) hb
   rcases ht.2 with h1 |⟨b',off',hA',hb',hc'⟩
   ·exact absurd h1 h0
   ·rw [hA']
    have hl:((List.range f).map C).length=f:=by simp
    refine (Tryz.slices_Clone_int b' off' f c ((List.range f).map C) w' (by omega) (by omega) (fun j hj=>by
        rw [hl] at hj
        rw [hc' j hj];simp [List.getD,hj])).mono ?_
    rintro e w'' ⟨v',rfl,h2,_,h3⟩
    refine ⟨v',rfl,?_,h3⟩
    rwa [List.take_of_length_le (by omega)] at h2
 have HF:=LH hf
 clear hi0 hz0 hz1 hz2 hn hm hE hA hZ hF hC hf
 go_enter Tryz.func147,Tryz.ntmps147
 go_wp2_with (first
  |(go_at_call 174
    with_reducible refine (SC.out _ ?_).mono ?_
    focus (exact (bR _ w).alloc (nl _) _)
    rintro e w1 ⟨u1,rfl,ho1,hb1⟩
    have HO1:=LH ho1
    have HB1:=LH hb1
    clear ho1 hb1))
 clear hmk SC
 have HBL:Hid (Blk w1 w.heap.size 4 (bcs n fun _=>false)):=by
  have:=(Blk.new w 4 Z).call HB1.out
  rwa [HZ.out] at this
 have HOW:Hid (w1.ownsRow (w.heap.size+1) 3 1 u1 f (ic ((List.range f).map C))):=by show World.ownsRow _ _ _ _ _ _ _;have:=HO1.out;simpa using this
 have HWB:Hid (Below w.heap.size w w1):=((bR _ w).alloc (nl _) _).trans (HB1.out.mono (by simp))
 have HRC:Hid (RcI X Y m (srcP f C) (fun _=>false) ((List.range f).map C)):=by
  refine ⟨fun v hv=>(by cases hv),fun z hz=>?_,fun v hv=>.inr ?_,fun a b' ha _=>(by cases ha)⟩
  ·obtain ⟨j,hj,e⟩:=List.mem_map.1 hz
   exact .src ⟨j,List.mem_range.1 hj,e⟩
  ·obtain ⟨j,hj,e⟩:=hv
   exact List.mem_map.2 ⟨j,List.mem_range.2 hj,e⟩
 have HCN:Hid (cntF n (fun _=>false)≤300):=nT (cntF_le _ _) HN.out
 go_loopg [6] (cntF n (fun _=>false)*1001+f) (fun gm u wr=>∃(N:Nat) (St:List Int) (o:Nat→Bool),Hid (wr.ownsRow (w.heap.size+1) 3 1 u N (ic St))∧Hid (Blk wr w.heap.size 4 (bcs n o))∧Hid (Below w.heap.size w wr)∧Hid (RcI X Y m (srcP f C) o St)∧Hid (cntF n o*1001+N≤gm∧N+cntF n o*1000≤301000))
 case atStart=>exact ⟨f,_,_,HOW,HBL,HWB,HRC,⟨nl _,by have:=HCN.out;have:=HF.out;omega⟩⟩
 case round=>
  clear HO1 HB1 HBL HOW HWB HRC HCN
  obtain ⟨N,St,o,HO,HB,HW,HR,HG⟩:=hrel
  obtain ⟨A0,cap,rfl⟩:=zE5 HO.out
  have hNl:N=St.length:=by have:=HO.out.1;rw [zE8] at this;omega
  by_cases hN0:N=0
  ·subst hN0
   have HST:Hid (St=[]):=List.eq_nil_of_length_eq_zero hNl.symm
   have T0:decide ((0:Int)<((0:Nat):Int))=false:=by decide
   clear hNl
   go_wp2_with fail
   go_ret
   refine ⟨w.heap.size,o,rfl,nl _,blk_bl HB.out,fun v hv=>?_,HW.out⟩
   have hr:=HR.out
   rw [HST.out] at hr
   exact hr.done HE.out.x HE.out.y (fun z hz=>(HSB.out z hz).1) v
  ·obtain ⟨N1,hN1⟩:∃N1,N1=N:=⟨_,rfl⟩
   subst hN1
   obtain ⟨N,hNN⟩:∃N,N1=N+1:=⟨N1 - 1,by omega⟩
   obtain ⟨St',z,hSt⟩:=list_snoc (hNl.symm.trans hNN)
   subst hSt
   have hz:=rch_bd HE.out HSB.out (HR.out.stk z (by simp))
   obtain ⟨i,hi⟩:∃i:Nat,z=(i:Int):=⟨z.toNat,by omega⟩
   subst hi
   have hin:i<n:=by omega
   rcases HO.out.2 with ⟨hv,h0⟩|⟨g,cap',cur,hv,_⟩
   ·exact absurd h0 hN0
   cases hv
   obtain ⟨ho,hNL,hci,hcap⟩:=own_pop hNN HO.out
   have HOP:=LH ho
   have T0:decide ((0:Int)<(N1:Int))=true:=dT (by omega)
   have T0':decide (0<N1)=true:=dT (by omega)
   have x0:IntKind.i64.wrap ((N1:Int) - 1)=(N:Int):=by have:=HG.out.2;rw [IntKind.wrap_i64];omega
   have k0:(0:Int)≤(N:Int):=by omega
   have k1:(N:Int)<(N1:Int):=by omega
   have k2:(N:Int)≤(cap:Int):=by omega
   have k2':N≤cap:=by omega
   have k3:(0:Int)≤(i:Int):=by omega
   have k4:(i:Int)<(n:Int):=by omega
   have cO:=HB.out.cell i
   rw [bcs_at hin] at cO
   have fO:=HB.out.frozen i
   have HIN:=LH hin
   have HK2:=LH k2'
   clear ho hNl hz hcap hin hNL hN0
   by_cases hoi:o i=true
   ·rw [hoi] at cO
    have HR':=LH (HR.out.seen hoi)
    have HG':=HG.out
    have HGM:Hid (cntF n o*1001+N<gk):=by show _<_;omega
    have HGN:Hid (N+cntF n o*1000≤301000):=by show _≤_;omega
    clear hoi HG' HG HR HO hNN
    go_wp2_with fail
    go_roundg (cntF n o*1001+N)
    case measure=>exact HGM.out
    case rel=>exact ⟨N,St',o,HOP.out,HB,HW,HR',nl _,HGN.out⟩
   ·have hof:o i=false:=by simpa using hoi
    rw [hof] at cO
    have HR':=LH (HR.out.new (bset_or o i))
    have hcs:=cntF_set hof n
    rw [if_pos HIN.out] at hcs
    obtain ⟨Ai,ci,hca,hlc,hrow⟩:=(HA.out.below HW.out).2 i HIN.out
    dsimp only at hca hlc hrow
    have hbw:b<w.heap.size:=HA.out.1
    have hl1:(nx X Y m (i:Int)).length≤1000:=nT (nx_len X Y m _) HM.out
    obtain ⟨K,hK⟩:∃K,(nx X Y m (i:Int)).length=K:=⟨_,rfl⟩
    rw [hK] at hca hlc hrow hl1
    have HGM:Hid (cntF n (bset o i)*1001+(N+K)<gk):=by show _<_;have:=HG.out;omega
    have HGN:Hid (N+K+cntF n (bset o i)*1000≤301000):=by show _≤_;have:=HG.out;omega
    have HKL:=LH hK
    have HN4:Hid (N≤400000∧K≤1000):=⟨by have:=HG.out;omega,hl1⟩
    -- behind the store
    have hbS:Below wr.heap.size wr wr:=bR _ _
    have HB5:Hid (Blk (wr.setCell ⟨w.heap.size,i,none⟩ (.bool true)) w.heap.size 4 (bcs n (bset o i))):=by have:=HB.out.set_ i (.bool true);rwa [bcs_set] at this
    have HW5:Hid (Below w.heap.size w (wr.setCell ⟨w.heap.size,i,none⟩ (.bool true))):=HW.out.setCell (p:=⟨w.heap.size,i,none⟩) (nl _) _
    have HO5:Hid ((wr.setCell ⟨w.heap.size,i,none⟩ (.bool true)).ownsRow (w.heap.size+1) 3 1 (.slice (some ⟨g,0,none⟩) N cap) N (ic St')):=HOP.out.kept (zB5 wr w.heap.size i _) (.inr (zE2 HOP.out HB.out (by decide)))
    obtain ⟨A5,c5,hca5,hlc5,hrow5⟩:=(HA.out.below HW5.out).2 i HIN.out
    dsimp only at hca5 hlc5 hrow5
    have hAA:A5=Ai∧c5=ci:=by
     have e1:=(World.cell?_setCell_far wr ⟨w.heap.size,i,none⟩ ⟨b,i,none⟩ (.bool true) (by show w.heap.size≠b;omega)).symm.trans hca5
     rw [hca,hK] at e1
     simp only [Option.some.injEq,Value.slice.injEq] at e1
     exact ⟨e1.1.symm,e1.2.2.symm⟩
    obtain ⟨rfl,rfl⟩:=hAA
    rw [hK] at hca5 hrow5
    have hsz:w.heap.size≤(wr.setCell ⟨w.heap.size,i,none⟩ (.bool true)).heap.size:=HW5.out.size
    have HB0:Hid (w.heap.size+1≤(wr.setCell ⟨w.heap.size,i,none⟩ (.bool true)).heap.size):=HB5.out.lt
    clear hcs hl1 hrow hlc5 hoi hof hK hbS hsz HOP HR HO HG HB HW hNN
    by_cases hnil:K=0
    ·subst hnil
     have HR0:=LH fun ty=>run_app_zero (some ⟨g,0,none⟩) N cap HK2.out A5 c5 ty (wr.setCell ⟨w.heap.size,i,none⟩ (.bool true))
     have HNIL:Hid (nx X Y m (i:Int)=[]):=List.eq_nil_of_length_eq_zero HKL.out
     clear hrow5
     cases A5
     all_goals
      go_wp2_with (at_builtin;refine Lib.wpList_append_run _ rfl _ _ _ _ rfl _ _ rfl rfl _ _ (HR0.out _) ?_)
      go_roundg (cntF n (bset o i)*1001+(N+0))
      case measure=>exact HGM.out
      case rel=>exact ⟨N,St',bset o i,HO5,HB5,HW5,(by have:=HR'.out;rw [HNIL.out,List.append_nil] at this;exact this),nl _,by have:=HGN.out;omega⟩
    ·rcases hrow5 with h5 |⟨gi,h5,hgi,hcell⟩
     ·exact absurd (by have:=HKL.out;rw [h5] at this;exact this.symm) hnil
     subst h5
     have HNW:Hid (∀j u,(ic (nx X Y m (i:Int)))[j]?=some u→(wr.setCell ⟨w.heap.size,i,none⟩ (.bool true)).cell? ((⟨gi,0,none⟩:Addr).add j)=some u):=fun j u hj=>by
      have hjl:j<(nx X Y m (i:Int)).length:=by
           have:=(List.getElem?_eq_some_iff.1 hj).1;rwa [zE8] at this
      have:=hcell j (by rw [←HKL.out];exact hjl)
      rw [Addr.add_lit,Nat.zero_add,this,←hj]
      simp [ic,List.getD,hjl]
     clear hcell hgi
     go_wp2_with (first
      |(at_builtin;refine wpList_append_own_at _ ?q1_1 (.tmp 35) (.tmp 39) 32 ?q1_2 (w.heap.size+1) 3 i0 (.int .i64 0) 1 8 Tryz.underlying32 HI0.out HZ0.out HZ1.out HZ2.out ?q1_3 ?q1_4 (.slice (some ⟨g,0,none⟩) N cap) N (ic St') ?q1_5 HO5.out ⟨gi,0,none⟩ K c5 (ic (nx X Y m (i:Int))) ?q1_7 (by rw [zE8,HKL.out,Nat.mul_one]) HNW.out (ints_oneCell _ _) (app_len HN4.out.1 HN4.out.2) (app_by HN4.out.1 HN4.out.2) HB0.out ?q1_14
        case q1_1=>exact rfl
        case q1_2=>exact rfl
        case q1_3=>exact rfl
        case q1_4=>decide
        case q1_5=>exact rfl
        case q1_7=>exact rfl
        intro u2 w7 hown2 hgrow2 hnil2 hat2
        have HO7:=LH hown2
        have HG7:=LH hgrow2
        clear hown2 hgrow2 hnil2 hat2))
     go_roundg (cntF n (bset o i)*1001+(N+K))
     case measure=>exact HGM.out
     case rel=>
      refine ⟨N+K,St'++nx X Y m (i:Int),bset o i,by rw [zH7];exact HO7.out,?_,?_,HR',nl _,HGN.out⟩
      ·exact HB5.out.grown HG7.out (fun e=>zE2 HO5.out HB5.out (by decide) e.symm)
      ·exact zB9 HW5.out HW5.out.size HG7.out (fun g' e=>by have:=(HO5.out.lt g' e).1;omega)
end Go.Proofs.YtghefgifhebniaaGreatDoor

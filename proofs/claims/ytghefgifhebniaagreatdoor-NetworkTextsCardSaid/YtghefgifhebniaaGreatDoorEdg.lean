/- The edges of a network, on both sides. -/
import Derived.Test.YtghefgifhebniaaGreatDoorMgC
import Derived.Test.YtghefgifhebniaaGreatDoorMgM
import Derived.Test.YtghefgifhebniaaGreatDoorMgF
namespace Go.Proofs.YtghefgifhebniaaGreatDoor
open Go.RowKit
set_option linter.unusedVariables false
set_option linter.unusedSimpArgs false
def edl (m:Nat) (X Y:Nat→Int):List (Int×Int):=(List.range m).map fun k=>(X k,Y k)
theorem edl_succ (m:Nat) (X Y:Nat→Int):edl (m+1) X Y=edl m X Y++[(X m,Y m)]:=by unfold edl;rw [List.range_succ,List.map_append];rfl
theorem zG9 (m:Nat) (X Y:Nat→Int):(edl m X Y).length=m:=by simp [edl]
theorem edl_at {m k:Nat} {X Y:Nat→Int} (h:k<m):kX (edl m X Y) k=X k∧kY (edl m X Y) k=Y k:=by
 unfold kX kY edl
 simp [List.getD,h]
noncomputable def eX (D:Nds) (n:Nat) (K:Lks) (k:Nat):Int:=fnd D.Nm n (K.Fr k)
noncomputable def eY (D:Nds) (n:Nat) (K:Lks) (k:Nat):Int:=fnd D.Nm n (K.To k)
def EMem (w wr:World) (u:Value) (N:Nat) (L:List (Int×Int)):Prop:=wr.ownsRow w.heap.size 38 2 u N (kc L)∧Below w.heap.size w wr
theorem EMem.call {w wr w':World} {u:Value} {N:Nat} {L:List (Int×Int)} (h:EMem w wr u N L) (hb:Below wr.heap.size wr w'):EMem w w' u N L:=⟨zB7 h.1 hb,zA1 h.2 hb⟩
theorem EMem.app {w wr w':World} {u v:Value} {N:Nat} {L:List (Int×Int)} {x y:Int} (h:EMem w wr u N L) {cs:Array Value} (hown:w'.ownsRow w.heap.size 38 2 v (N+1) (kc L++[.int .i64 x,.int .i64 y])) (hg:(wr.alloc (.cells cs 38)).grownBy w' u.ownBlock):EMem w w' v (N+1) (L++[(x,y)]):=
 ⟨by rw [zL8];exact hown,zJ8 (h.1.alloc _) (h.2.alloc h.2.size _) hg⟩
theorem EMem.blk {w wx w':World} {u:Value} {N g:Nat} {L:List (Int×Int)} {t:TypeId} {cs cs':Array Value} (h:Blk wx g t cs) (hm:EMem w wx u N L) (hne:38≠t) (hg:(wx.alloc (.cells cs' 38)).grownBy w' u.ownBlock):Blk w' g t cs:=by
 refine (h.alloc _).grown hg fun e=>?_
 exact zE2 hm.1 h hne e.symm
theorem EMem.form {w wr:World} {u:Value} {N:Nat} {L:List (Int×Int)} (h:EMem w wr u N L):∃A cap,u= .slice A N cap:=by
 rcases h.1.2 with ⟨hv,h0⟩|⟨g,cap,cur,hv,_⟩
 ·exact ⟨none,0,by rw [hv,h0]⟩
 ·exact ⟨_,cap,hv⟩
theorem infoE:(Tryz.prog.info? 38).map (fun i=>(i.zero,i.size,i.bytes))=some (some (.agg #[.int .i64 0,.int .i64 0]),2,16):=by kernel_rfl
theorem h63_e {n:Nat} (h:n≤2000):n+1≤maxLen:=by simp only [maxLen];omega
theorem hby_e {n:Nat} (h:n≤2000):(n+1)*16≤140737488355328:=by omega
def EdPost (m:Nat) (X Y:Nat→Int) (w:World) (e:Ending) (w':World):Prop:=∃u,e= .returned u∧EMem w w' u m (edl m X Y)
set_option maxRecDepth 100000 in
set_option maxHeartbeats 4000000 in
theorem nedges (NA LA:Option Addr) (n nc m lc:Nat) (D:Nds) (K:Lks) (w:World) (h2:n≤2000) (h3:m≤2000) (hD:NdIn w NA n D) (hK:LkIn w LA m K):
 Calls Tryz.prog 56 #[.agg #[.slice NA n nc,.slice LA m lc]] w (EdPost m (eX D n K) (eY D n K) w):=by
 obtain ⟨i0,hi0,hz0,hz1,hz2⟩:=zA8 infoE
 have HI0:=LH hi0
 have HZ0:=LH hz0
 have HZ1:=LH hz1
 have HZ2:=LH hz2
 have HD:=LH hD
 have HK:=LH hK
 have H2:=LH h2
 have H3:=LH h3
 clear hi0 hz0 hz1 hz2 hD hK h2 h3
 go_enter Tryz.func56,Tryz.ntmps56
 go_wp2_with fail
 have HW0:Hid (Blk (w.alloc (Obj.cells #[.slice NA n nc,.slice LA m lc] 25)) w.heap.size 25 #[.slice NA n nc,.slice LA m lc]):=Blk.new _ _ _
 go_loopw [3,9] (fun u x wr=>∃i:Nat,Hid (i≤m)∧x= .int .i64 i∧Hid (EMem w wr u i (edl i (eX D n K) (eY D n K)))∧Hid (Blk wr w.heap.size 25 #[.slice NA n nc,.slice LA m lc])) (fun _ x _=>m - (RowKit.intOf x).toNat)
 case atStart=>exact ⟨0,Nat.zero_le _,rfl,⟨World.ownsRow_nil _ _ _ _,(bR _ w).alloc (nl _) _⟩,HW0.out⟩
 case round=>
  obtain ⟨i,Hi,rfl,HM,HB⟩:=hrel
  obtain ⟨A0,cap0,h8⟩:=HM.out.form
  subst h8
  have d0:=HB.out.cell 0
  have d1:=HB.out.cell 1
  simp only [List.getElem?_toArray,List.getElem?_cons_zero,List.getElem?_cons_succ] at d0 d1
  by_cases hlt:i<m
  case neg=>
   have e:i=m:=by have:=Hi.out;omega
   have T0:decide ((i:Int)<(m:Int))=false:=by simp<;> omega
   have T0':decide (i<m)=false:=dF hlt
   have HIE:=LH e
   clear e hlt
   go_wp2_with fail
   go_ret
   exact ⟨_,rfl,by have:=HIE.out;subst this;exact HM.out⟩
  have T0:decide ((i:Int)<(m:Int))=true:=by simp<;> omega
  have T0':decide (i<m)=true:=dT hlt
  obtain ⟨i',hi'⟩:∃z,z=i+1:=⟨_,rfl⟩
  have x0:IntKind.i64.wrap ((i:Int)+1)=(i':Int):=by have:=H3.out;rw [IntKind.wrap_i64];omega
  have HI':Hid (i'≤m∧i'=i+1):=⟨by omega,hi'⟩
  have HMS:Hid (m - (RowKit.intOf (Value.int .i64 (i':Int))).toNat<m - (RowKit.intOf (Value.int .i64 (i:Int))).toNat):=by show _<_;simp [RowKit.intOf];omega
  have k0:(0:Int)≤(i:Int):=by omega
  have k1:(i:Int)<(m:Int):=by omega
  have HIN:Hid (i≤2000):=by show i≤2000;have:=H3.out;omega
  obtain ⟨bk,ok,rfl,hbk,hC,htab⟩:=(HK.out.below (nl _) HM.out.2).at hlt
  have c0:=hC 0 _ rfl
  have c1:=hC 1 _ rfl
  have c2:=hC 2 _ rfl
  have c3:=hC 3 _ rfl
  have c4:=hC 4 _ rfl
  have c5:=hC 5 _ rfl
  have c6:=hC 6 _ rfl
  have c7:=hC 7 _ rfl
  have c8:=hC 8 _ rfl
  have c9:=hC 9 _ rfl
  have c10:=hC 10 _ rfl
  simp only [Nat.add_zero] at c0
  clear hi' hC htab hlt
  go_upto_region 5 with fail
  have hal:Below wr.heap.size wr (wr.alloc (Obj.cells (lkA K i) 64)):=(bR _ wr).alloc (nl _) _
  have HBG:Hid (Blk (wr.alloc (Obj.cells (lkA K i) 64)) wr.heap.size 64 (lkA K i)):=Blk.new _ _ _
  have HM4:=LH (HM.out.call hal)
  have HB4:=LH (HB.out.call hal)
  clear hal d0 d1 c0 c1 c2 c3 c4 c5 c6 c7 c8 c9 c10 HM HB hbk
  unfold lkA at HBG HM4 HB4
  generalize wr.alloc (Obj.cells _ 64)=w4 at HBG HM4 HB4⊢
  generalize wr.heap.size=G at HBG⊢
  have a0:=HB4.out.cell 0
  have a1:=HB4.out.cell 1
  have b1:=HBG.out.cell 1
  have b2:=HBG.out.cell 2
  simp only [List.getElem?_toArray,List.getElem?_cons_zero,List.getElem?_cons_succ] at a0 a1 b1 b2
  have hs0:w4.cell? ⟨w.heap.size,0,none⟩=some (.slice NA n nc)∧w4.cell? ⟨w.heap.size,1,none⟩=some (.slice (some ⟨bk,ok,none⟩) m lc)∧w4.cell? ⟨G,1,none⟩=some (.string (K.Fr i))∧w4.cell? ⟨G,2,none⟩=some (.string (K.To i)):=⟨a0,a1,b1,b2⟩
  clear a0 a1 b1 b2
  have HS:Hid (∀w',Below w4.heap.size w4 w'→w'.cell? ⟨w.heap.size,0,none⟩=some (.slice NA n nc)∧w'.cell? ⟨w.heap.size,1,none⟩=some (.slice (some ⟨bk,ok,none⟩) m lc)∧w'.cell? ⟨G,1,none⟩=some (.string (K.Fr i))∧w'.cell? ⟨G,2,none⟩=some (.string (K.To i))):=fun w' hb=>⟨(hb.cell (p:=⟨_,0,none⟩) HB4.out.lt).trans hs0.1,(hb.cell (p:=⟨_,1,none⟩) HB4.out.lt).trans hs0.2.1,(hb.cell (p:=⟨_,1,none⟩) HBG.out.lt).trans hs0.2.2.1,(hb.cell (p:=⟨_,2,none⟩) HBG.out.lt).trans hs0.2.2.2⟩
  have HN4:=LH (HD.out.below (nl _) HM4.out.2)
  have S1:Hid (∀w',Below w4.heap.size w4 w'→Calls Tryz.prog 66 #[.agg #[.slice NA n nc,.slice (some ⟨bk,ok,none⟩) m lc],.string (K.Fr i)] w' fun e w''=>e= .returned (.int .i64 (eX D n K i))∧Below w'.heap.size w' w''):=fun w' hb=>n_node NA _ n nc m lc D (K.Fr i) w' H2.out (HN4.out.below (nl _) hb)
  have S2:Hid (∀w',Below w4.heap.size w4 w'→Calls Tryz.prog 66 #[.agg #[.slice NA n nc,.slice (some ⟨bk,ok,none⟩) m lc],.string (K.To i)] w' fun e w''=>e= .returned (.int .i64 (eY D n K i))∧Below w'.heap.size w' w''):=fun w' hb=>n_node NA _ n nc m lc D (K.To i) w' H2.out (HN4.out.below (nl _) hb)
  have HL':Hid (edl i' (eX D n K) (eY D n K)=edl i (eX D n K) (eY D n K)++[(eX D n K i,eY D n K i)]):=by show _=_;rw [HI'.out.2,edl_succ]
  generalize edl i (eX D n K) (eY D n K)=L at HM4 HL'
  generalize hL':edl i' (eX D n K) (eY D n K)=L' at HL'
  have HLL:=LH hL'
  clear hL'
  generalize eX D n K i=vx at S1 HL'
  generalize eY D n K i=vy at S2 HL'
  generalize K.Fr i=sx at S1 hs0 HS HBG
  generalize K.To i=sy at S2 hs0 HS HBG
  clear HN4
  go_region_held3 (fun w'=>w'.cell? ⟨w.heap.size,0,none⟩=some (.slice NA n nc)∧w'.cell? ⟨w.heap.size,1,none⟩=some (.slice (some ⟨bk,ok,none⟩) m lc)∧w'.cell? ⟨G,1,none⟩=some (.string sx)∧w'.cell? ⟨G,2,none⟩=some (.string sy)) (first
   |exact hs0
   |exact y0
   |exact HS.out _ hq5
   |exact HS.out _ hq6
   |exact HS.out _ hq5.drew
   |exact HS.out _ hq6.drew
   |exact HS.out _ (bR _ w4).drew
   |exact HS.out _ (hq6.alloc hq6.size _)
   |exact HS.out _ (hq6.drew.alloc hq6.size _)) (first
   |(go_at_call 66
     with_reducible refine (S1.out _ ?_).mono ?_
     focus (first |exact bR _ _ |exact (bR _ _).drew)
     rintro e w5 ⟨rfl,hb5⟩
     have hq5:Below w4.heap.size w4 w5:=by first |exact hb5 |exact (bR _ w4).drew.trans hb5
     clear hb5)
   |(go_at_call 66
     with_reducible refine (S2.out _ ?_).mono ?_
     focus (first |exact hq5 |exact hq5.drew)
     rintro e w6 ⟨rfl,hb6⟩
     have hq6:Below w4.heap.size w4 w6:=by first |exact hq5.trans (hb6.mono hq5.size)|exact hq5.drew.trans (hb6.mono hq5.size)
     have HM6:=LH (HM4.out.call hq6)
     have HB6:=LH (HB4.out.call hq6)
     have HBG6:=LH (HBG.out.call hq6)
     clear hb6)
   |((refine step_append_lies _ (by rfl) _ _ _ (by rfl) w.heap.size 38 i0 (.agg #[.int .i64 0,.int .i64 0]) 2 16 Tryz.underlying28 HI0.out HZ0.out HZ1.out HZ2.out rfl (by omega) (.slice A0 i cap0) i (kc L) (by rfl) (HM6.out.1.alloc _) ⟨w6.heap.size,0,none⟩ 1 1 [.int .i64 vx,.int .i64 vy] (by rfl) (by rfl) (World.news_of_block (cs:=#[.int .i64 vx,.int .i64 vy]) (t:=38) (fr:=(0,0)) (heap_alloc_new w6 _)) (by simp [Value.oneCell']) (by omega) (h63_e HIN.out) (hby_e HIN.out) (zA9 HM6.out.2.size _) (w6.heap.size+1) (by simp) ?_
      intro gg capg wA hownA hgrowA hatA hltA
      have HM8:=LH (HM6.out.app hownA hgrowA)
      have HB8:=LH (HM6.out.blk HB6.out (by decide) hgrowA)
      have y0:wA.cell? ⟨w.heap.size,0,none⟩=some (.slice NA n nc)∧wA.cell? ⟨w.heap.size,1,none⟩=some (.slice (some ⟨bk,ok,none⟩) m lc)∧wA.cell? ⟨G,1,none⟩=some (.string sx)∧wA.cell? ⟨G,2,none⟩=some (.string sy):=⟨HB8.out.cell 0,HB8.out.cell 1,(HM6.out.blk HBG6.out (by decide) hgrowA).cell 1,(HM6.out.blk HBG6.out (by decide) hgrowA).cell 2⟩
      clear hownA hgrowA hatA hltA)))
  all_goals
   go_wp2_with fail
   go_roundw
   case rel=>exact ⟨i',HI'.out.1,rfl,by rw [HLL.out,HL'.out,HI'.out.2];exact HM8.out,HB8.out⟩
   case measure=>exact HMS.out
end Go.Proofs.YtghefgifhebniaaGreatDoor

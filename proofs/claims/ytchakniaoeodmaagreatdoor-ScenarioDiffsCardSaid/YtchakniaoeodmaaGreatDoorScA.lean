/- copied of package scenario. Written by gen_sca.py. -/
import Derived.Test.YtchakniaoeodmaaGreatDoorMgA
namespace Go.Proofs.YtchakniaoeodmaaGreatDoor
open Go.RowKit
set_option linter.unusedVariables false
set_option linter.unusedSimpArgs false
structure Z2 (N:List Ndr) (L:List Lkr):Prop where
 zn:∀x,x∈N→x.T.length≤2000
 zl:∀x,x∈L→x.T.length≤2000
set_option maxRecDepth 100000 in
set_option maxHeartbeats 16000000 in
theorem zF2 (NA LA:Option Addr) (n nc0 m lc0:Nat) (D:Nds) (K:Lks) (w:World) (hz:ZZ (recN D n) (recL K m)) (hD:NdIn w NA n D) (hK:LkIn w LA m K):
 Calls Tryz.prog 69 #[.agg #[.slice NA n nc0,.slice LA m lc0]] w fun e w'=>∃u,e= .returned u∧CpPost (recN D n) (recL K m) w u w':=by
 have hal:Below w.heap.size w ((w.alloc (Obj.cells #[.slice NA n nc0,.slice LA m lc0] 52)).alloc (Obj.cells #[.slice none 0 0,.slice none 0 0] 52)):=((bR _ w).alloc (nl _) _).alloc (by simp) _
 have HX1:Hid (Blk ((w.alloc (Obj.cells #[.slice NA n nc0,.slice LA m lc0] 52)).alloc (Obj.cells #[.slice none 0 0,.slice none 0 0] 52)) w.heap.size 52 #[.slice NA n nc0,.slice LA m lc0]):=(Blk.new _ _ _).alloc _
 have HX2:Hid (Blk ((w.alloc (Obj.cells #[.slice NA n nc0,.slice LA m lc0] 52)).alloc (Obj.cells #[.slice none 0 0,.slice none 0 0] 52)) (w.heap.size+1) 52 #[.slice none 0 0,.slice none 0 0]):=by have h:=Blk.new (w.alloc (Obj.cells #[.slice NA n nc0,.slice LA m lc0] 52)) 52 #[.slice none 0 0,.slice none 0 0];simp at h;exact h
 have HAL0:=LH hal
 have HD:=LH hD
 have HK:=LH hK
 have HNM:Hid (n≤2000∧m≤2000):=⟨hz.n2,hz.m2⟩
 have HZ:Hid (True∧Z2 (recN D n) (recL K m)):=⟨trivial,fun x h=>(hz.zn x h).2,fun x h=>(hz.zl x h).2.2.2.2⟩
 clear hal hD hK hz
 go_enter Tryz.func69,Tryz.ntmps69
 go_upto_region 1 with fail
 generalize (w.alloc (Obj.cells #[.slice NA n nc0,.slice LA m lc0] 52)).alloc (Obj.cells #[.slice none 0 0,.slice none 0 0] 52)=w2 at HX1 HX2 HAL0⊢
 have HD2:=LH (HD.out.below (nl _) HAL0.out)
 have HK2:=LH (HK.out.below (nl _) HAL0.out)
 have SN:Hid (∀w',Below w2.heap.size w2 w'→Calls Tryz.prog 116 #[.slice NA n nc0] w' fun e w''=>∃v,e= .returned v∧w''.ownsRow w'.heap.size 30 9 v n (nc (nmO D n))∧Below w'.heap.size w' w''):=fun w' hb=>by
  have h:=zT9 NA n nc0 ((nmO D n).map ncm) (zL2 _) (by simp [nmO]) HNM.out.1 w' (zO4 (HD2.out.below (nl _) hb))
  rw [zF6] at h
  exact h
 have SL:Hid (∀w',Below w2.heap.size w2 w'→Calls Tryz.prog 117 #[.slice LA m lc0] w' fun e w''=>∃v,e= .returned v∧w''.ownsRow w'.heap.size 32 11 v m (lc (lmO K m))∧Below w'.heap.size w' w''):=fun w' hb=>by
  have h:=zU4 LA m lc0 ((lmO K m).map lcm') (zL3 _) (by simp [lmO]) HNM.out.2 w' (zO5 (HK2.out.below (nl _) hb))
  rw [zF7] at h
  exact h
 have hs0:w2.cell? ⟨w.heap.size,0,none⟩=some (.slice NA n nc0)∧w2.cell? ⟨w.heap.size,1,none⟩=some (.slice LA m lc0):=⟨HX1.out.cell 0,HX1.out.cell 1⟩
 have HS:Hid (∀w',Below w2.heap.size w2 w'→w'.cell? ⟨w.heap.size,0,none⟩=some (.slice NA n nc0)∧w'.cell? ⟨w.heap.size,1,none⟩=some (.slice LA m lc0)):=fun w' hb=>⟨(HX1.out.call hb).cell 0,(HX1.out.call hb).cell 1⟩
 have HW2S:Hid (w.heap.size+1<w2.heap.size):=HX2.out.lt
 go_cut [3] from 6 to 12 (fun s wx=>∃(G:Nat) (A3 A4:Option Addr) (c3 c4:Nat),s= .pointer (some ⟨G,0,none⟩)∧Hid (Below w2.heap.size w2 wx)∧Hid (Blk wx G 52 #[.slice A3 n c3,.slice A4 m c4])∧Hid (CpJ w2.heap.size (.slice A3 n c3) (.slice A4 m c4) (nmO D n) (lmO K m) 0 0 wx)∧Hid (w2.heap.size≤G))
 case first=>
  go_region_held3 (fun w'=>w'.cell? ⟨w.heap.size,0,none⟩=some (.slice NA n nc0)∧w'.cell? ⟨w.heap.size,1,none⟩=some (.slice LA m lc0)) (first
   |exact hs0
   |exact HS.out _ hq4
   |exact HS.out _ hq3
   |exact HS.out _ bel) (first
   |(go_at_call 116
     with_reducible refine (SN.out _ ?_).mono ?_
     focus (exact bel)
     rintro e w3 ⟨v3,rfl,ho3,hb3⟩
     obtain ⟨A3,c3,rfl⟩:=zI9 ho3
     have hq3:Below w2.heap.size w2 w3:=Below.trans bel (hb3.mono (by simp<;> omega))
     have HO3:Hid (w3.ownsRow w2.heap.size 30 9 (.slice A3 n c3) n (nc (nmO D n))):=zB7 ho3 (by simp<;> omega)
     try (have hZ:=by first |exact blkz hb3 |exact blkd hb3
          obtain ⟨z0,z1⟩:=blk2 hZ
          have f0:=hZ.frozen 0
          have f1:=hZ.frozen 1)
     clear ho3 hb3)
   |(go_at_call 117
     with_reducible refine (SL.out _ ?_).mono ?_
     focus (exact bel)
     rintro e w4 ⟨v4,rfl,ho4,hb4⟩
     obtain ⟨A4,c4,rfl⟩:=zI9 ho4
     have hq4:Below w2.heap.size w2 w4:=Below.trans bel (hb4.mono (by have:=hq3.size;simp<;> omega))
     have HO4:Hid (w4.ownsRow w2.heap.size 32 11 (.slice A4 m c4) m (lc (lmO K m))):=zB7 ho4 (by have:=hq3.size;simp<;> omega)
     have HO34:Hid (w4.ownsRow w2.heap.size 30 9 (.slice A3 n c3) n (nc (nmO D n))):=by
      first
      |exact zC0 HO3.out hb4
      |exact zC0 (HO3.out.alloc _) hb4
     first
     |(have hZ4:=hZ.call hb4
       obtain ⟨z0,z1⟩:=blk2 hZ4
       have f0:=hZ4.frozen 0
       have f1:=hZ4.frozen 1)
     |(have hZ4:=blkz hb4
       obtain ⟨z0,z1⟩:=blk2 hZ4
       have f0:=hZ4.frozen 0
       have f1:=hZ4.frozen 1)
     |(have hZ4:=blkd hb4
       obtain ⟨z0,z1⟩:=blk2 hZ4
       have f0:=hZ4.frozen 0
       have f1:=hZ4.frozen 1)
     |skip
     clear ho4 hb4))
  all_goals (go_wp2_with fail;go_meet)
  all_goals (first
   |exact ⟨w4.heap.size,A3,A4,c3,c4,rfl,(by show Below _ _ _;exact bel),Blk.new _ _ _,CpJ.start HD2.out HK2.out (nl _) bel (HO34.out.alloc _) (HO4.out.alloc _),hq4.size⟩
   |exact ⟨w3.heap.size,A3,A4,c3,c4,rfl,(by show Below _ _ _;have:=hq3.size;exact bel),(hZ4.set_ 0 _).set_ 1 _,CpJ.start HD2.out HK2.out (nl _) (by have:=hq3.size;exact bel) (zO7 HO34.out hZ4 (by decide)) (zO7 HO4.out hZ4 (by decide)),hq3.size⟩
   |exact ⟨w2.heap.size,A3,A4,c3,c4,rfl,(by show Below _ _ _;exact bel),(hZ4.set_ 0 _).set_ 1 _,CpJ.start HD2.out HK2.out (nl _) bel (zO7 HO34.out hZ4 (by decide)) (zO7 HO4.out hZ4 (by decide)),nl _⟩)
 case rest=>
 obtain ⟨G,A3,A4,c3,c4,rfl,HL5,HX5,HJ5,HBS⟩:=hcut
 have HR5:=LH (HX2.out.call HL5.out)
 clear hs0 HS SN SL
 generalize wc=w5 at HX5 HJ5 HR5 HL5⊢
 have y0:w5.cell? ⟨G,0,none⟩=some (.slice A3 n c3):=HX5.out.cell 0
 obtain ⟨vl,hvl⟩:∃z,Value.slice A4 m c4=z:=⟨_,rfl⟩
 have HVL:=LH hvl
 rw [hvl] at HX5 HJ5
 clear hvl
 obtain ⟨vn,hvn⟩:∃z,Value.slice A3 n c3=z:=⟨_,rfl⟩
 have HVN:=LH hvn
 rw [hvn] at HX5 HJ5
 clear hvn
 go_wp2_with fail
 clear y0
 go_loopw [16] (fun x wr=>∃(k:Nat) (NM:List Ndm),x= .int .i64 k∧Hid (k≤n)∧Hid (ndx NM=recN D n)∧Hid (NM.length=n)∧Hid (CpJ w2.heap.size vn vl NM (lmO K m) k 0 wr)∧Hid (Blk wr G 52 #[vn,vl]∧Blk wr (w.heap.size+1) 52 #[.slice none 0 0,.slice none 0 0]∧Below w2.heap.size w2 wr)) (fun x _=>n - (RowKit.intOf x).toNat)
 case atStart=>exact ⟨0,nmO D n,rfl,Nat.zero_le _,ndx_nmO D n,zE5 D n,HJ5.out,⟨HX5.out,HR5.out,HL5.out⟩⟩
 case round=>
  clear HX5 HJ5 HR5 HL5
  obtain ⟨k,NM,rfl,Hk,HE,HL,HJ,HB⟩:=hrel
  by_cases hlt:k<n
  ·have T0:decide ((k:Int)<(n:Int))=true:=by simp<;> omega
   have T0':decide (k<n)=true:=dU hlt
   obtain ⟨k',hk'⟩:∃z,z=k+1:=⟨_,rfl⟩
   have x0:IntKind.i64.wrap ((k:Int)+1)=(k':Int):=by have:=HNM.out;rw [IntKind.wrap_i64];omega
   have HK':Hid (k'≤n∧k'=k+1):=⟨by omega,hk'⟩
   have HMS:Hid (n - (RowKit.intOf (Value.int .i64 (k':Int))).toNat<n - (RowKit.intOf (Value.int .i64 (k:Int))).toNat):=by show _<_;simp [RowKit.intOf];omega
   have k0:(0:Int)≤(k:Int):=by omega
   have k1:(k:Int)<(n:Int):=by omega
   obtain ⟨p,hp,hpx⟩:∃p,NM[k]?=some p∧p.x.T.length≤2000:=by
        have hl:k<NM.length:=by rw [HL.out];exact hlt
        refine ⟨NM[k],List.getElem?_eq_getElem hl,HZ.out.2.zn _ ?_⟩
        rw [←HE.out]
        exact List.mem_map.2 ⟨_,List.getElem_mem hl,rfl⟩
   have HP:=LH hp
   obtain ⟨pA,pc,pT,epA,epc,epT⟩:∃(pA:Option Addr) (pc pT:Nat),p.A=pA∧p.c=pc∧p.x.T.length=pT:=⟨_,_,_,rfl,rfl,rfl⟩
   obtain ⟨g,cap,hsl⟩:∃g cap,vn= .slice (some ⟨g,0,none⟩) n cap:=by
        have h8:=HJ.out.on
        rw [HL.out] at h8
        obtain ⟨g,cap,e,_⟩:=h8.form (by omega)
        exact ⟨g,cap,e⟩
   subst hsl
   have y2:wr.cell? ⟨G,0,none⟩=some (.slice (some ⟨g,0,none⟩) n cap):=HB.out.1.cell 0
   have hrow:=HJ.out.on
   rw [HL.out] at hrow
   have y3:wr.cell? ⟨g,k*9+6,none⟩=some (.slice pA pT pc):=by
        rw [hrow.cellAt _ (by omega)]
        unfold nc
        rw [zK4 ncm 9 (fun _=>rfl) NM k 6 p hp (by omega),←epA,←epc,←epT]
        rfl
   have hf3:wr.frozen? ⟨g,k*9+6,none⟩=false:=hrow.frozenAt _
   have HTB:Hid (TabIn wr pA pT (kX p.x.T) (kY p.x.T)):=by
        have:=(HJ.out.tn p (List.mem_of_getElem? hp)).1
        rw [epA,epT] at this
        exact this
   have HS:Hid (∀w',Below wr.heap.size wr w'→w'.cell? ⟨G,0,none⟩=some (.slice (some ⟨g,0,none⟩) n cap)∧w'.frozen? ⟨g,k*9+6,none⟩=false∧w'.cell? ⟨g,k*9+6,none⟩=some (.slice pA pT pc)):=fun w' hb=>⟨(HB.out.1.call hb).cell 0,(zC0 hrow hb).frozenAt _,(hb.cell (p:=⟨g,k*9+6,none⟩) (hrow.lt g rfl).2).trans y3⟩
   have hGg:G≠g:=fun e=>zJ5 hrow HB.out.1 (by decide) (by rw [e];rfl)
   have HGG:=LH hGg
   have HPT:Hid (pT≤2000):=by show _≤_;rw [←epT];exact hpx
   have SK:Hid (∀w',Below wr.heap.size wr w'→Calls Tryz.prog 118 #[.slice pA pT pc] w' (KClPost pT (kX p.x.T) (kY p.x.T) w')):=fun w' hb=>kclone pA pT pc _ _ HPT.out w' (HTB.out.below (nl _) hb)
   have EPT:=LH epT
   have HGE:Hid (∀w1:World,wr.heap.size≤w1.heap.size→True):=fun _ _=>trivial
   have y4:=hrow.lt g rfl
   have HGL:Hid (w2.heap.size≤g∧g<wr.heap.size):=⟨by have:=HBS.out;omega,y4.2⟩
   clear hk' hlt hp hpx hrow epA epc epT y4
   go_upto_region 5 with fail
   go_region_law (first
        |(go_simp
          go_at_call 118
          with_reducible refine (SK.out _ ?_).mono ?_
          focus (first |exact (bR wr.heap.size wr)|exact (bR wr.heap.size wr).drew)
          rintro e w6 ⟨A6,c6,rfl,ht6,ha6,hb6⟩
          have hq6:Below wr.heap.size wr w6:=by first |exact (bR wr.heap.size wr).trans (hb6.mono (bR wr.heap.size wr).size)|exact (bR wr.heap.size wr).drew.trans (hb6.mono (bR wr.heap.size wr).size)
          have HQ6:=LH hq6
          have HT6:=LH ht6
          have HA6:Hid (pT≠0→∃g',A6=some ⟨g',0,none⟩∧wr.heap.size≤g'):=fun h=>by
           obtain ⟨g',e1,e2⟩:=ha6 h
           exact ⟨g',e1,by first |exact e2 |exact nT (bR wr.heap.size wr).drew.size e2⟩
          have hf6:w6.frozen? ⟨g,k*9+6,none⟩=false:=(HS.out _ hq6).2.1
          have hy6:w6.cell? ⟨g,k*9+6,none⟩=some (.slice pA pT pc):=(HS.out _ hq6).2.2
          have hz6:=(HS.out _ hq6).1
          clear hb6 ht6 ha6))
   all_goals
        have HST:=HJ.out.stepN (A':=A6) (c':=c6) HP.out HQ6.out (by rw [EPT.out];exact HT6.out) (fun h=>HA6.out (by rw [←EPT.out];exact h)) (by have:=HBS.out;have:=HGL.out;omega)
        rw [EPT.out] at HST
        have HST:=LH HST
        have HX7:Hid (Blk (w6.setCell ⟨g,k*9+6,none⟩ (.slice A6 pT c6)) G 52 #[.slice (some ⟨g,0,none⟩) n cap,vl]):=(HB.out.1.call HQ6.out).far HGG.out _
        have HR7:Hid (Blk (w6.setCell ⟨g,k*9+6,none⟩ (.slice A6 pT c6)) (w.heap.size+1) 52 #[.slice none 0 0,.slice none 0 0]):=(HB.out.2.1.call HQ6.out).far (by show w.heap.size+1≠g;have:=HGL.out;have:=HW2S.out;omega) _
        have HL7:Hid (Below w2.heap.size w2 (w6.setCell ⟨g,k*9+6,none⟩ (.slice A6 pT c6))):=(zA1 HB.out.2.2 HQ6.out).setCell (p:=⟨g,k*9+6,none⟩) HGL.out.1 _
        clear HS SK HTB hf6 hy6 hf3 y2 y3 hq6 hGg
        try simp only [World.drew_setCell]
        generalize w6.setCell ⟨g,k*9+6,none⟩ (.slice A6 pT c6)=w7 at HST HX7 HR7 HL7⊢
        go_wp2_with fail
        go_roundw
        case measure=>exact HMS.out
        case rel=>
         refine ⟨k',NM.set k ⟨p.x,A6,c6⟩,rfl,HK'.out.1,?_,?_,?_,?_⟩
         ·exact (ndx_set HP.out).trans HE.out
         ·show (NM.set k _).length=n;rw [List.length_set];exact HL.out
         ·rw [HK'.out.2];exact HST.out.1
         ·exact ⟨HX7.out,HR7.out,HL7.out⟩
  · -- the end of the loop over nodes
    have T0:decide ((k:Int)<(n:Int))=false:=by simp<;> omega
    have T0':decide (k<n)=false:=dF hlt
    obtain rfl:n=k:=by have:=Hk.out;omega
    have y1:wr.cell? ⟨G,1,none⟩=some vl:=HB.out.1.cell 1
    rw [←HVL.out] at y1
    go_wp2_with fail
    clear y1
    obtain ⟨w5,hw5⟩:∃z:World,z=wr:=⟨_,rfl⟩
    rw [←hw5] at HJ HB⊢
    clear hw5
    have HE1:=HE
    have HL1:=HL
    have HJ5:=HJ
    have HB5:=HB
    clear HE HL HJ HB T0 T0' hlt Hk
    go_loopw [35] (fun x wr=>∃(j:Nat) (LM:List Lkm),x= .int .i64 j∧Hid (j≤m)∧Hid (lkx LM=recL K m)∧Hid (LM.length=m)∧Hid (CpJ w2.heap.size vn vl NM LM n j wr)∧Hid (Blk wr G 52 #[vn,vl]∧Blk wr (w.heap.size+1) 52 #[.slice none 0 0,.slice none 0 0]∧Below w2.heap.size w2 wr)) (fun x _=>m - (RowKit.intOf x).toNat)
    case atStart=>exact ⟨0,lmO K m,rfl,Nat.zero_le _,lkx_lmO K m,zE6 K m,HJ5.out,HB5.out⟩
    case round=>
        clear HJ5 HB5
        obtain ⟨k,LM,rfl,Hk,HE,HL,HJ,HB⟩:=hrel
        by_cases hlt:k<m
        ·have T0:decide ((k:Int)<(m:Int))=true:=by simp<;> omega
         have T0':decide (k<m)=true:=dU hlt
         obtain ⟨k',hk'⟩:∃z,z=k+1:=⟨_,rfl⟩
         have x0:IntKind.i64.wrap ((k:Int)+1)=(k':Int):=by have:=HNM.out;rw [IntKind.wrap_i64];omega
         have HK':Hid (k'≤m∧k'=k+1):=⟨by omega,hk'⟩
         have HMS:Hid (m - (RowKit.intOf (Value.int .i64 (k':Int))).toNat<m - (RowKit.intOf (Value.int .i64 (k:Int))).toNat):=by show _<_;simp [RowKit.intOf];omega
         have k0:(0:Int)≤(k:Int):=by omega
         have k1:(k:Int)<(m:Int):=by omega
         obtain ⟨p,hp,hpx⟩:∃p,LM[k]?=some p∧p.x.T.length≤2000:=by
          have hl:k<LM.length:=by rw [HL.out];exact hlt
          refine ⟨LM[k],List.getElem?_eq_getElem hl,HZ.out.2.zl _ ?_⟩
          rw [←HE.out]
          exact List.mem_map.2 ⟨_,List.getElem_mem hl,rfl⟩
         have HP:=LH hp
         obtain ⟨pA,pc,pT,epA,epc,epT⟩:∃(pA:Option Addr) (pc pT:Nat),p.A=pA∧p.c=pc∧p.x.T.length=pT:=⟨_,_,_,rfl,rfl,rfl⟩
         obtain ⟨g,cap,hsl⟩:∃g cap,vl= .slice (some ⟨g,0,none⟩) m cap:=by
          have h8:=HJ.out.ol
          rw [HL.out] at h8
          obtain ⟨g,cap,e,_⟩:=h8.form (by omega)
          exact ⟨g,cap,e⟩
         subst hsl
         have y2:wr.cell? ⟨G,1,none⟩=some (.slice (some ⟨g,0,none⟩) m cap):=HB.out.1.cell 1
         have hrow:=HJ.out.ol
         rw [HL.out] at hrow
         have y3:wr.cell? ⟨g,k*11+10,none⟩=some (.slice pA pT pc):=by
          rw [hrow.cellAt _ (by omega)]
          unfold lc
          rw [zK4 lcm' 11 (fun _=>rfl) LM k 10 p hp (by omega),←epA,←epc,←epT]
          rfl
         have hf3:wr.frozen? ⟨g,k*11+10,none⟩=false:=hrow.frozenAt _
         have HTB:Hid (TabIn wr pA pT (kX p.x.T) (kY p.x.T)):=by
          have:=(HJ.out.tl p (List.mem_of_getElem? hp)).1
          rw [epA,epT] at this
          exact this
         have HS:Hid (∀w',Below wr.heap.size wr w'→w'.cell? ⟨G,1,none⟩=some (.slice (some ⟨g,0,none⟩) m cap)∧w'.frozen? ⟨g,k*11+10,none⟩=false∧w'.cell? ⟨g,k*11+10,none⟩=some (.slice pA pT pc)):=fun w' hb=>⟨(HB.out.1.call hb).cell 1,(zC0 hrow hb).frozenAt _,(hb.cell (p:=⟨g,k*11+10,none⟩) (hrow.lt g rfl).2).trans y3⟩
         have hGg:G≠g:=fun e=>zJ5 hrow HB.out.1 (by decide) (by rw [e];rfl)
         have HGG:=LH hGg
         have HPT:Hid (pT≤2000):=by show _≤_;rw [←epT];exact hpx
         have SK:Hid (∀w',Below wr.heap.size wr w'→Calls Tryz.prog 118 #[.slice pA pT pc] w' (KClPost pT (kX p.x.T) (kY p.x.T) w')):=fun w' hb=>kclone pA pT pc _ _ HPT.out w' (HTB.out.below (nl _) hb)
         have EPT:=LH epT
         have HGE:Hid (∀w1:World,wr.heap.size≤w1.heap.size→True):=fun _ _=>trivial
         have y4:=hrow.lt g rfl
         have HGL:Hid (w2.heap.size≤g∧g<wr.heap.size):=⟨by have:=HBS.out;omega,y4.2⟩
         clear hk' hlt hp hpx hrow epA epc epT y4
         go_upto_region 10 with fail
         go_region_law (first
          |(go_simp
            go_at_call 118
            with_reducible refine (SK.out _ ?_).mono ?_
            focus (first |exact (bR wr.heap.size wr)|exact (bR wr.heap.size wr).drew)
            rintro e w6 ⟨A6,c6,rfl,ht6,ha6,hb6⟩
            have hq6:Below wr.heap.size wr w6:=by first |exact (bR wr.heap.size wr).trans (hb6.mono (bR wr.heap.size wr).size)|exact (bR wr.heap.size wr).drew.trans (hb6.mono (bR wr.heap.size wr).size)
            have HQ6:=LH hq6
            have HT6:=LH ht6
            have HA6:Hid (pT≠0→∃g',A6=some ⟨g',0,none⟩∧wr.heap.size≤g'):=fun h=>by
              obtain ⟨g',e1,e2⟩:=ha6 h
              exact ⟨g',e1,by first |exact e2 |exact nT (bR wr.heap.size wr).drew.size e2⟩
            have hf6:w6.frozen? ⟨g,k*11+10,none⟩=false:=(HS.out _ hq6).2.1
            have hy6:w6.cell? ⟨g,k*11+10,none⟩=some (.slice pA pT pc):=(HS.out _ hq6).2.2
            have hz6:=(HS.out _ hq6).1
            clear hb6 ht6 ha6))
         all_goals
          have HST:=HJ.out.stepL (A':=A6) (c':=c6) HP.out HQ6.out (by rw [EPT.out];exact HT6.out) (fun h=>HA6.out (by rw [←EPT.out];exact h)) (by have:=HBS.out;have:=HGL.out;omega)
          rw [EPT.out] at HST
          have HST:=LH HST
          have HX7:Hid (Blk (w6.setCell ⟨g,k*11+10,none⟩ (.slice A6 pT c6)) G 52 #[vn,.slice (some ⟨g,0,none⟩) m cap]):=(HB.out.1.call HQ6.out).far HGG.out _
          have HR7:Hid (Blk (w6.setCell ⟨g,k*11+10,none⟩ (.slice A6 pT c6)) (w.heap.size+1) 52 #[.slice none 0 0,.slice none 0 0]):=(HB.out.2.1.call HQ6.out).far (by show w.heap.size+1≠g;have:=HGL.out;have:=HW2S.out;omega) _
          have HL7:Hid (Below w2.heap.size w2 (w6.setCell ⟨g,k*11+10,none⟩ (.slice A6 pT c6))):=(zA1 HB.out.2.2 HQ6.out).setCell (p:=⟨g,k*11+10,none⟩) HGL.out.1 _
          clear HS SK HTB hf6 hy6 hf3 y2 y3 hq6 hGg
          try simp only [World.drew_setCell]
          generalize w6.setCell ⟨g,k*11+10,none⟩ (.slice A6 pT c6)=w7 at HST HX7 HR7 HL7⊢
          go_wp2_with fail
          go_roundw
          case measure=>exact HMS.out
          case rel=>
           refine ⟨k',LM.set k ⟨p.x,A6,c6⟩,rfl,HK'.out.1,?_,?_,?_,?_⟩
           ·exact (lkx_set HP.out).trans HE.out
           ·show (LM.set k _).length=m;rw [List.length_set];exact HL.out
           ·rw [HK'.out.2];exact HST.out.1
           ·exact ⟨HX7.out,HR7.out,HL7.out⟩
        ·have T0:decide ((k:Int)<(m:Int))=false:=by simp<;> omega
         have T0':decide (k<m)=false:=dF hlt
         obtain rfl:k=m:=by have:=Hk.out;omega
         have HCR:=LH (HJ.out.fin HL1.out HL.out)
         have e1:=HVN.out
         have e2:=HVL.out
         subst e1 e2
         have HO:=LH HB.out.1
         have HR:=LH HB.out.2.1
         have HL7:=LH HB.out.2.2
         have EN:=HE1
         have EL:=HE
         obtain ⟨o0,o1⟩:=blk2 HO.out
         obtain ⟨r0,r1⟩:=blk2 HR.out
         have f0:=HR.out.frozen 0
         have f1:=HR.out.frozen 1
         clear HJ HB HVN HVL HE HE1 HL HL1 HX2 HBS
         have HRS:=LH ((HR.out.set_ 0 (.slice A3 n c3)).set_ 1 (.slice A4 k c4))
         obtain ⟨z0,z1⟩:=blk2 HRS.out
         have HRT:Hid (CpPost (recN D n) (recL K k) w (.agg #[.slice A3 n c3,.slice A4 k c4]) ((wr.setCell ⟨w.heap.size+1,0,none⟩ (.slice A3 n c3)).setCell ⟨w.heap.size+1,1,none⟩ (.slice A4 k c4))):=by
          have hp:=((HCR.out.low HW2S.out 0 (.slice A3 n c3)).low HW2S.out 1 (.slice A4 k c4)).cp (w:=w) (by have:=HW2S.out;omega) (((zA1 HAL0.out HL7.out).setCell (p:=⟨w.heap.size+1,0,none⟩) (by show w.heap.size≤w.heap.size+1;omega) (.slice A3 n c3)).setCell (p:=⟨w.heap.size+1,1,none⟩) (by show w.heap.size≤w.heap.size+1;omega) (.slice A4 k c4))
          rw [EN.out,EL.out] at hp
          exact hp
         go_wp2_with fail
         refine bodyPost_ret (v:=.agg #[.slice A3 n c3,.slice A4 k c4]) (by simp [results,Tryz.results69,go_sem,z0,z1]) rfl ?_
         exact ⟨_,rfl,HRT.out⟩
end Go.Proofs.YtchakniaoeodmaaGreatDoor

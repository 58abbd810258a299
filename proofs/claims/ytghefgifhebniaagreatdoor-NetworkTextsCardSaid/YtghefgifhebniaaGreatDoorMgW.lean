/- Merged texts of these proofs: Bld, TxN. -/
import Derived.Test.YtghefgifhebniaaGreatDoorBase
import Derived.Test.YtghefgifhebniaaGreatDoorShelf
import Derived.Shelf.Strings.BuilderK
import Derived.Test.YtghefgifhebniaaGreatDoorMgV
import Derived.Test.YtghefgifhebniaaGreatDoorNetV
namespace Go.Proofs.YtghefgifhebniaaGreatDoor
open Go.RowKit Go.Shelf
set_option linter.unusedVariables false
set_option linter.unusedSimpArgs false
def BAt (B b:Nat) (l:List UInt8) (w:World):Prop:=Lib.IsBuilderF 114 5 B b (Lib.byteCells l) w
theorem infoBd:(Tryz.prog.info? 5).map (fun i=>(i.zero,i.size,i.bytes))=some (some (.int .u8 0),1,1):=by kernel_rfl
theorem info_partsBd {P:Program} {e:TypeId} {x y z} (h:(P.info? e).map (fun i=>(i.zero,i.size,i.bytes))=some (x,y,z)):∃i,P.info? e=some i∧i.zero=x∧i.size=y∧i.bytes=z:=by
 cases hi:P.info? e with
 |none=>rw [hi] at h;simp at h
 |some i=>rw [hi] at h;simp at h;exact ⟨i,rfl,h.1,h.2.1,h.2.2⟩
theorem BAt.new {B:Nat} (w:World) (hB:B≤w.heap.size):BAt B w.heap.size [] (w.alloc (.cells #[.pointer none,.slice none 0 0] 114)):=by
 refine .inl ⟨hB,.slice none 0 0,?_,?_,by simp [Value.ownBlock]⟩
 ·exact heap_alloc_new w _
 ·exact ⟨rfl,.inl ⟨rfl,rfl⟩⟩
theorem sizeBld:(Tryz.prog.info? 114).map (·.size)=some 2:=by kernel_rfl
theorem liesBld:liesAt Tryz.prog Tryz.prog.depth 114 (2 / Tryz.prog.cellsOf 114) 0 114 1=true:=by kernel_rfl
theorem bne_cell:114≠5:=by decide
set_option maxRecDepth 100000 in
set_option maxHeartbeats 1000000 in
theorem bcopy (B b:Nat) (l:List UInt8) (w:World) (h:BAt B b l w):
 Calls Tryz.prog 124 #[.pointer (some ⟨b,0,none⟩)] w fun e w'=>e= .returned (.tuple #[])∧(Lib.BuilderAtF 114 5 B b (.pointer (some ⟨b,0,none⟩)) (Lib.byteCells l) w'∧Below B w w'∧Lib.OthersKept 5 (some b) w w'):=by
 obtain ⟨j,hj,hjs⟩:=Option.map_eq_some_iff.1 sizeBld
 rcases h with h |h
 ·have c0:=h.cell0
  have f0:=h.frozen0
  have hsh:=h.shape
  have hu:=h.used (.pointer (some ⟨b,0,none⟩))
  have hb:=(bR B w).setCell (p:=⟨b,0,none⟩) h.1 (.pointer (some ⟨b,0,none⟩))
  have hk:=(Lib.OthersKept.refl 5 (some b) w).setCell ⟨b,0,none⟩ rfl (.pointer (some ⟨b,0,none⟩))
  have HH:=LH (And.intro hu (And.intro hb hk))
  clear hu hb hk h
  go_enter Tryz.func124,Tryz.ntmps124
  go_wp2_with fail
  rw [Lib.run_to_unsafe w ⟨b,0,none⟩ Tryz.underlying111 Tryz.underlying176 hj (by rw [hjs];decide) hsh (Nat.zero_lt_succ 1)]
  simp only [Result.andThen]
  rw [Oper.upon_value]
  go_wp2_with fail
  rw [run_callFunc_extern Tryz.func159 (by kernel_rfl) (by kernel_rfl) (by kernel_rfl) (e:=Extern.AbiNoEscape.same) (by kernel_rfl)]
  rw [Lib.run_noEscape]
  simp only [Result.andThen]
  rw [Oper.upon_value]
  go_wp2_with fail
  rw [Lib.run_from_unsafe w ⟨b,0,none⟩ Tryz.underlying176 Tryz.underlying111 hj hsh liesBld]
  simp only [Result.andThen]
  rw [Oper.upon_value]
  go_wp2_with fail
  go_end0
  exact ⟨rfl,HH.out⟩
 ·have c0:=h.cell0
  have HH:=LH h
  clear h
  go_enter Tryz.func124,Tryz.ntmps124
  go_wp2_with fail
  rw [Lib.run_neq_ptr_same w _ Tryz.underlying111 hj]
  simp only [Result.andThen]
  rw [Oper.upon_value]
  go_wp2_with fail
  go_end0
  exact ⟨rfl,HH.out,bR B _,Lib.OthersKept.refl _ _ _⟩
theorem byteCells_app (l m:List UInt8):Lib.byteCells (l++m)=Lib.byteCells l++Lib.byteCells m:=by unfold Lib.byteCells;rw [List.map_append]
theorem strCells_eq (s:ByteArray):Lib.strCells s=Lib.byteCells s.data.toList:=by
 apply List.ext_getElem?
 intro k
 simp [Lib.strCells,Lib.byteCells]
set_option maxRecDepth 100000 in
set_option maxHeartbeats 2000000 in
theorem bstring (B b:Nat) (l:List UInt8) (s:ByteArray) (w:World) (h:BAt B b l w) (hlen:l.length+s.size≤140737488355328) (hBw:B≤w.heap.size):
 Calls Tryz.prog 83 #[.pointer (some ⟨b,0,none⟩),.string s] w fun e w'=>e= .returned (.tuple #[.int .i64 s.size,.nilIface])∧BAt B b (l++s.data.toList) w'∧Below B w w'∧Lib.OthersKept 5 (some b) w w':=by
 obtain ⟨i0,hi,hz0,hz1,hz2⟩:=info_partsBd infoBd
 have S:=LH (bcopy B b l w h)
 have HL:=LH hlen
 have HB:=LH hBw
 clear h hlen hBw
 go_enter Tryz.func83,Tryz.ntmps83
 go_wp2_with (first |(go_at_call 124;(with_reducible refine (S.out).mono ?_)))
 rintro e w1 ⟨rfl,h1,hb1,hk1⟩
 obtain ⟨hB,v,hbk,hown,hne⟩:=h1
 rw [Lib.byteCells_length] at hown
 have c0:w1.cell? ⟨b,0,none⟩=some (.pointer (some ⟨b,0,none⟩)):=by rw [Lib.cell_of_heap hbk];rfl
 have c1:w1.cell? ⟨b,1,none⟩=some v:=by rw [Lib.cell_of_heap hbk];rfl
 go_wp2_with (at_builtin;refine Lib.wpList_append_own_stringF _ rfl _ _ 112 9 rfl B 5 i0 Tryz.underlying112 Tryz.underlying9 hi hz0 hz1 hz2 _ _ _ rfl hown s rfl ?c3 ?c4 ?c5 ?_)
 case c3=>have:=HL.out;unfold maxLen;omega
 case c4=>have:=HL.out;omega
 case c5=>have:=hb1.size;have:=HB.out;omega
 intro v' w2 hown' hgrow _
 have hlt:b<w1.heap.size:=by
  rcases Nat.lt_or_ge b w1.heap.size with h' |h'
  ·exact h'
  ·simp [Array.getElem?_eq_none h'] at hbk
 have hb2:w2.heap[b]?=some (.cells #[.pointer (some ⟨b,0,none⟩),v] 114 (0,0)):=by
  rw [hgrow.block b hlt (fun e=>hne e.symm)]
  exact hbk
 have d0:w2.cell? ⟨b,0,none⟩=some (.pointer (some ⟨b,0,none⟩)):=by rw [Lib.cell_of_heap hb2];rfl
 have d1:w2.cell? ⟨b,1,none⟩=some v:=by rw [Lib.cell_of_heap hb2];rfl
 have f1:w2.frozen? ⟨b,1,none⟩=false:=Lib.frozen_of_heap hb2 1
 obtain ⟨ao,n',cap,rfl⟩:∃ao n' cap,v'= .slice ao n' cap:=by
  rcases hown'.2 with ⟨hv,_⟩|⟨g,cap,cur,fz,hv,_⟩
  ·exact ⟨_,_,_,hv⟩
  ·exact ⟨_,_,_,hv⟩
 have HX:Hid (BAt B b (l++s.data.toList) (w2.setCell ⟨b,1,none⟩ (.slice ao n' cap))∧Below B w (w2.setCell ⟨b,1,none⟩ (.slice ao n' cap))∧Lib.OthersKept 5 (some b) w (w2.setCell ⟨b,1,none⟩ (.slice ao n' cap))):=by
  refine ⟨.inr ?_,?_,(hk1.grown hgrow (Lib.ownsRowF_kind hown)).setCell ⟨b,1,none⟩ rfl _⟩
  ·have:=Lib.BuilderAtF.put (T:=114) (e:=5) hB hb2 (bs':=Lib.byteCells l++Lib.strCells s) (by rw [List.length_append,Lib.byteCells_length,Lib.strCells_length];exact hown') bne_cell
   rw [byteCells_app,←strCells_eq]
   exact this
  ·exact (hb1.grown hgrow (by have:=hb1.size;have:=HB.out;omega) (fun k hk=>(hown.lt k hk).1)).setCell (p:=⟨b,1,none⟩) hB _
 clear hown hown' hgrow hbk hb2 hb1 hk1
 go_wp2_with fail
 go_ret2
 exact ⟨rfl,HX.out⟩
theorem BAt.call {B b:Nat} {l:List UInt8} {w w':World} (h:BAt B b l w) (hb:Below w.heap.size w w'):BAt B b l w':=by
 have key:∀{p:Value} {bs:List Value},Lib.BuilderAtF 114 5 B b p bs w→Lib.BuilderAtF 114 5 B b p bs w':=fun h=>by
  have hlt:=h.lt
  obtain ⟨hB,v,hbk,hown,hne⟩:=h
  exact ⟨hB,v,(hb.block b hlt).trans hbk,hown.kept (zB1 hb none) (by cases hv:v.ownBlock<;> simp),hne⟩
 exact h.elim (fun x=>.inl (key x)) (fun x=>.inr (key x))
theorem BAt.alloc {B b:Nat} {l:List UInt8} {w:World} (h:BAt B b l w) (o:Obj):BAt B b l (w.alloc o):=Lib.IsBuilderF.alloc h o
theorem BAt.lt {B b:Nat} {l:List UInt8} {w:World} (h:BAt B b l w):b<w.heap.size:=h.elim (fun x=>x.lt) (fun x=>x.lt)
theorem Blk.oth {w w':World} {g b:Nat} {t:TypeId} {cs:Array Value} (h:Blk w g t cs) (hk:Lib.OthersKept 5 (some b) w w') (hg:g≠b) (ht:t≠5):Blk w' g t cs:=
 hk g _ h (fun e=>hg (by cases e;rfl)) (fun c fz e=>by cases e;exact ht rfl)
theorem netV_of {D:Nds} {K:Lks} {n m:Nat} (h:netP D n K m):netV (recN D n) (recL K m):=by
 refine netP_eq (D:=D) (n:=n) (K:=K) (m:=m) ⟨?_,?_⟩ h
 ·exact (ndsR_rec _ _ _).symm
 ·exact (lksR_rec _ _ _).symm
theorem netT_nd (N:List Ndr) (x:Ndr):netT (N++[x]) []=netT N []++(ndT x++[10]):=by simp [netT,netLn]
theorem netT_lk (N:List Ndr) (L:List Lkr) (y:Lkr):netT N (L++[y])=netT N L++(lkT y++[10]):=by simp [netT,netLn]
theorem ncs_of (D:Nds) (i:Nat):(ncs (zE6 D i) (D.SA i) (D.SC i)).toArray=ndA D i:=by unfold ncs zE6 ndA;simp [zG9]
theorem lcs_of (K:Lks) (i:Nat):(lcs (zF1 K i) (K.CA i) (K.CC i)).toArray=lkA K i:=by unfold lcs zF1 lkA;simp [zG9]
theorem tab_edl {w:World} {A:Option Addr} {n:Nat} {X Y:Nat→Int} (h:TabIn w A n X Y):TabIn w A (edl n X Y).length (kX (edl n X Y)) (kY (edl n X Y)):=by
 rw [zG9]
 refine ⟨h.1,?_⟩
 rcases h.2 with h0 |⟨b,off,hb,h1,h2⟩
 ·exact .inl h0
 ·refine .inr ⟨b,off,hb,h1,fun k hk=>?_⟩
  obtain ⟨e1,e2⟩:=edl_at (X:=X) (Y:=Y) hk
  rw [e1,e2]
  exact h2 k hk
structure TxS (w wr:World) (b:Nat) (cs:Array Value) (l:List UInt8):Prop where
 bt:BAt w.heap.size b l wr
 bl:Below w.heap.size w wr
 nx:Blk wr w.heap.size 25 cs
 ne:w.heap.size≠b
theorem TxS.call {w wr w':World} {b:Nat} {cs:Array Value} {l:List UInt8} (h:TxS w wr b cs l) (hb:Below wr.heap.size wr w'):TxS w w' b cs l:=⟨h.bt.call hb,zA1 h.bl hb,h.nx.call hb,h.ne⟩
theorem TxS.put {w wr:World} {b:Nat} {cs:Array Value} {l:List UInt8} (h:TxS w wr b cs l) (hl:l.length≤300000) (x:List UInt8) (hx:x.length≤3000):
 Calls Tryz.prog 83 #[.pointer (some ⟨b,0,none⟩),.string ⟨x.toArray⟩] wr fun e w'=>(∃v,e= .returned v)∧TxS w w' b cs (l++x):=by
 have hsz:(⟨x.toArray⟩:ByteArray).size=x.length:=rfl
 refine (bstring w.heap.size b l ⟨x.toArray⟩ wr h.bt (by omega) h.bl.size).mono ?_
 rintro e w' ⟨he,h1,h2,h3⟩
 exact ⟨⟨_,he⟩,h1,h.bl.trans h2,h.nx.oth h3 h.ne (by decide),h.ne⟩
theorem netT_part {D:Nds} {K:Lks} {n m i j:Nat} (h:netP D n K m) (hn:n≤40) (hm:m≤60) (hi:i≤n) (hj:j≤m):(netT (recN D i) (recL K j)).length≤250000:=by
 have hv:=netV_of h
 have h1:=netV_nd hv
 have h2:=netV_lk hv
 have:=netT_le (N:=recN D i) (L:=recL K j) (fun x hx=>by
  obtain ⟨k,hk,rfl⟩:=List.mem_map.1 hx
  exact h1 _ (List.mem_map.2 ⟨k,List.mem_range.2 (by have:=List.mem_range.1 hk;omega),rfl⟩)) (fun x hx=>by
  obtain ⟨k,hk,rfl⟩:=List.mem_map.1 hx
  exact h2 _ (List.mem_map.2 ⟨k,List.mem_range.2 (by have:=List.mem_range.1 hk;omega),rfl⟩))
 rw [zL3,zL4] at this
 omega
theorem tntext_bad (NA LA:Option Addr) (n nc m lc:Nat) (D:Nds) (K:Lks) (hz:NetSz D n K m) (hP:¬netP D n K m) (w:World) (hD:NdIn w NA n D) (hK:LkIn w LA m K):
 Calls Tryz.prog 47 #[.agg #[.slice NA n nc,.slice LA m lc]] w fun e w'=>e= .returned (.tuple #[.string ⟨#[]⟩,.int .i64 1])∧Below w.heap.size w w':=by
 have SV:Hid (∀w',Below w.heap.size w w'→Calls Tryz.prog 36 #[.agg #[.slice NA n nc,.slice LA m lc]] w' fun e w''=>e= .returned (.bool false)∧Below w'.heap.size w' w''):=fun w' hb=>by
  have:=nvalid NA LA n nc m lc D K hz w' (hD.below (nl _) hb) (hK.below (nl _) hb)
  rw [zA0 hP] at this
  exact this
 clear hz hP hD hK
 go_enter Tryz.func47,Tryz.ntmps47
 go_wp2_with (first
  |(go_at_call 36
    with_reducible refine (SV.out _ ?_).mono ?_
    focus (exact bel)
    rintro e w2 ⟨rfl,hb2⟩
    have HB2:Hid (Below w.heap.size w w2):=zA1 bel hb2
    clear hb2))
 go_ret2
 exact ⟨rfl,HB2.out⟩
set_option maxRecDepth 100000 in
set_option maxHeartbeats 8000000 in
theorem tntext (NA LA:Option Addr) (n nc m lc:Nat) (D:Nds) (K:Lks) (hz:NetSz D n K m) (hP:netP D n K m) (h40:n≤40) (h60:m≤60) (w:World) (hE:Env w) (hD:NdIn w NA n D) (hK:LkIn w LA m K):
 Calls Tryz.prog 47 #[.agg #[.slice NA n nc,.slice LA m lc]] w fun e w'=>e= .returned (.tuple #[.string ⟨(netT (recN D n) (recL K m)).toArray⟩,.int .i64 0])∧Below w.heap.size w w':=by
 have SV:Hid (∀w',Below w.heap.size w w'→Calls Tryz.prog 36 #[.agg #[.slice NA n nc,.slice LA m lc]] w' fun e w''=>e= .returned (.bool true)∧Below w'.heap.size w' w''):=fun w' hb=>by
  have:=nvalid NA LA n nc m lc D K hz w' (hD.below (nl _) hb) (hK.below (nl _) hb)
  rw [zA2 hP] at this
  exact this
 have hv:=netV_of hP
 have HVN:Hid (∀i,i<n→vNd (zE6 D i)):=fun i hi=>netV_nd hv _ (List.mem_map.2 ⟨i,List.mem_range.2 hi,rfl⟩)
 have HVL:Hid (∀i,i<m→vLk (zF1 K i)):=fun i hi=>netV_lk hv _ (List.mem_map.2 ⟨i,List.mem_range.2 hi,rfl⟩)
 have HLN:Hid (∀i j,i≤n→j≤m→(netT (recN D i) (recL K j)).length≤250000):=fun i j hi hj=>netT_part hP h40 h60 hi hj
 have HD:=LH hD
 have HK:=LH hK
 have HE:=LH hE
 have H40:=LH h40
 have H60:=LH h60
 have hal:Below w.heap.size w (w.alloc (Obj.cells #[.slice NA n nc,.slice LA m lc] 25)):=(bR _ w).alloc (nl _) _
 have HAL:=LH hal
 have HB0:Hid (Blk (w.alloc (Obj.cells #[.slice NA n nc,.slice LA m lc] 25)) w.heap.size 25 #[.slice NA n nc,.slice LA m lc]):=Blk.new _ _ _
 clear hD hK hE hz hP h40 h60 hv hal
 go_enter Tryz.func47,Tryz.ntmps47
 go_upto_region 3 with (first
  |(go_at_call 36
    with_reducible refine (SV.out _ HAL.out).mono ?_
    rintro e w2 ⟨rfl,hb2⟩
    have HB2:=LH (zA1 HAL.out hb2)
    have HX2:=LH (HB0.out.call hb2)
    clear hb2))
 obtain ⟨b,hb⟩:∃b,w2.heap.size=b:=⟨_,rfl⟩
 have HM0:Hid (TxS w (w2.alloc (.cells #[.pointer none,.slice none 0 0] 114)) b #[.slice NA n nc,.slice LA m lc] (netT (recN D 0) (recL K 0))):=⟨by rw [←hb];exact BAt.new w2 HB2.out.size,HB2.out.alloc HB2.out.size _,HX2.out.alloc _,by have:=HX2.out.lt;omega⟩
 go_upto_region 4 with fail
 try rw [hb]
 clear HB2 HX2 HB0 HAL SV hb
 generalize w2.alloc (.cells #[.pointer none,.slice none 0 0] 114)=w3 at HM0⊢
 obtain ⟨y0,y1⟩:=blk2 HM0.out.nx
 go_wp2_with fail
 go_loopw [15] (fun u wr=>∃i:Nat,Hid (i≤n)∧u= .int .i64 i∧Hid (TxS w wr b #[.slice NA n nc,.slice LA m lc] (netT (recN D i) (recL K 0)))) (fun u _=>n - (RowKit.intOf u).toNat)
 case atStart=>exact ⟨0,Nat.zero_le _,rfl,HM0⟩
 case round=>
  clear HM0 y0 y1
  obtain ⟨i,Hi,rfl,HM⟩:=hrel
  by_cases hlt:i<n
  case neg=>
   have T0:decide ((i:Int)<(n:Int))=false:=by simp<;> omega
   have T0':decide (i<n)=false:=dF hlt
   have e:i=n:=by have:=Hi.out;omega
   have HM1:Hid (TxS w wr b #[.slice NA n nc,.slice LA m lc] (netT (recN D n) (recL K 0))):=by have h9:=HM.out;rw [e] at h9;exact h9
   obtain ⟨y0,y1⟩:=blk2 HM1.out.nx
   clear hlt e HM Hi HVN HD
   go_wp2_with fail
   go_loopw [26] (fun u wq=>∃j:Nat,Hid (j≤m)∧u= .int .i64 j∧Hid (TxS w wq b #[.slice NA n nc,.slice LA m lc] (netT (recN D n) (recL K j)))) (fun u _=>m - (RowKit.intOf u).toNat)
   case atStart=>exact ⟨0,Nat.zero_le _,rfl,HM1⟩
   case round=>
        rename World=>wq
        clear HM1 y0 y1
        obtain ⟨j,Hj,rfl,HM⟩:=hrel
        by_cases hlt:j<m
        case neg=>
         have T1:decide ((j:Int)<(m:Int))=false:=by simp<;> omega
         have T1':decide (j<m)=false:=dF hlt
         have e:j=m:=by have:=Hj.out;omega
         subst e
         have SS:=LH fun w'=>fun h h2=>Tryz.Builder_String_any_k w.heap.size b (netT (recN D n) (recL K j)) w' h h2
         clear hlt
         go_wp2_with (first
          |(go_at_call 86
            refine (SS.out _ HM.out.bt HM.out.bl.size).mono ?_
            rintro e wz ⟨rfl,hz1,hz2,hz3⟩
            have HZ:=LH (HM.out.bl.trans hz2)
            clear hz1 hz2 hz3))
         go_ret2
         exact ⟨rfl,HZ.out⟩
        have T1:decide ((j:Int)<(m:Int))=true:=by simp<;> omega
        have T1':decide (j<m)=true:=dT hlt
        obtain ⟨j',hj'⟩:∃z,z=j+1:=⟨_,rfl⟩
        have x0:IntKind.i64.wrap ((j:Int)+1)=(j':Int):=by have:=H60.out;rw [IntKind.wrap_i64];omega
        have k0:(0:Int)≤(j:Int):=by omega
        have k1:(j:Int)<(m:Int):=by omega
        have HMS:Hid (m - (RowKit.intOf (Value.int .i64 (j':Int))).toNat<m - (RowKit.intOf (Value.int .i64 (j:Int))).toNat):=by show _<_;simp [RowKit.intOf];omega
        have HI':Hid (j'≤m):=by show _≤_;omega
        have hln:=HLN.out n j (nl _) (by omega)
        have HEQ:Hid (netT (recN D n) (recL K j')=netT (recN D n) (recL K j)++(lkT (zF1 K j)++[10])):=by show _=_;rw [hj',recL_succ,netT_lk]
        have hvl:=HVL.out j hlt
        have hxl:=hvl.len
        obtain ⟨bk,ok,rfl,hbk,hC,htab⟩:=(HK.out.below (nl _) HM.out.bl).at hlt
        have c0:=hC 0 _ rfl
        have c1:=hC 1 _ rfl
        have c2:=hC 2 _ rfl
        have c3:=hC 3 _ rfl
        have c4:=hC 4 _ rfl
        have c5:=hC 5 _ rfl
        have c6:=hC 6 _ rfl
        have c7:=hC 7 _ rfl
        have c8:=hC 8 _ rfl
        have c9:=hC 9 _ rfl
        have c10:=hC 10 _ rfl
        simp only [Nat.add_zero] at c0
        have SN0:=fun w' (hb':Below wq.heap.size wq w')=>tlinkLine (zF1 K j) (K.CA j) (K.CC j) hvl w' (HE.out.below (zA1 HM.out.bl hb')) (tab_edl (htab.below (nl _) hb'))
        rw [lcs_of] at SN0
        have SN:=LH SN0
        obtain ⟨lt,hlt2⟩:∃lt,lkT (zF1 K j)++[10]=lt:=⟨_,rfl⟩
        rw [hlt2] at SN HEQ
        have HLL:Hid (lt.length≤3000):=by show _≤_;rw [←hlt2,List.length_append,List.length_cons,List.length_nil];omega
        have HLN2:Hid ((netT (recN D n) (recL K j)).length≤300000):=by show _≤_;omega
        unfold lkA at SN
        clear hj' hC htab hlt hvl hxl SN0 hlt2 hln
        go_upto_region 12 with fail
        have hal:Below wq.heap.size wq (wq.alloc (Obj.cells (lkA K j) 64)):=(bR _ wq).alloc (nl _) _
        have HBG:Hid (Blk (wq.alloc (Obj.cells (lkA K j) 64)) wq.heap.size 64 (lkA K j)):=Blk.new _ _ _
        have HM4:=LH (HM.out.call hal)
        have HW4:=LH hal
        clear hal c0 c1 c2 c3 c4 c5 c6 c7 c8 c9 c10 hbk
        unfold lkA at HBG HM4 HW4
        generalize wq.alloc (Obj.cells _ 64)=w4 at HBG HM4 HW4⊢
        generalize wq.heap.size=G at HBG⊢
        obtain ⟨q0,q1,q2,q3,q4,q5,q6,q7,q8,q9,q10⟩:=zA5 HBG.out
        go_wp2_with (first
         |(go_at_call 85
           with_reducible refine (SN.out _ HW4.out).mono ?_
           rintro e w5 ⟨rfl,hb5⟩
           have HM5:=LH (HM4.out.call hb5)
           clear hb5)
         |(go_at_call 83
           refine (HM5.out.put HLN2.out lt HLL.out).mono ?_
           rintro e w6 ⟨⟨v6,rfl⟩,hm6⟩
           have HM6:=LH hm6
           clear hm6))
        go_roundw
        case rel=>exact ⟨j',HI',rfl,by have:=HM6.out;rw [←HEQ.out] at this;exact this⟩
        case measure=>exact HMS.out
  have T0:decide ((i:Int)<(n:Int))=true:=by simp<;> omega
  have T0':decide (i<n)=true:=dT hlt
  obtain ⟨i',hi'⟩:∃z,z=i+1:=⟨_,rfl⟩
  have x0:IntKind.i64.wrap ((i:Int)+1)=(i':Int):=by have:=H40.out;rw [IntKind.wrap_i64];omega
  have k0:(0:Int)≤(i:Int):=by omega
  have k1:(i:Int)<(n:Int):=by omega
  have HMS:Hid (n - (RowKit.intOf (Value.int .i64 (i':Int))).toNat<n - (RowKit.intOf (Value.int .i64 (i:Int))).toNat):=by show _<_;simp [RowKit.intOf];omega
  have HI':Hid (i'≤n):=by show _≤_;omega
  have hln:=HLN.out i 0 (by omega) (Nat.zero_le _)
  have HEQ:Hid (netT (recN D i') (recL K 0)=netT (recN D i) (recL K 0)++(ndT (zE6 D i)++[10])):=by show _=_;rw [hi',recN_succ];exact netT_nd _ _
  have hvl:=HVN.out i hlt
  have hxl:=hvl.len
  obtain ⟨bk,ok,rfl,hbk,hC,htab⟩:=(HD.out.below (nl _) HM.out.bl).at hlt
  have c0:=hC 0 _ rfl
  have c1:=hC 1 _ rfl
  have c2:=hC 2 _ rfl
  have c3:=hC 3 _ rfl
  have c4:=hC 4 _ rfl
  have c5:=hC 5 _ rfl
  have c6:=hC 6 _ rfl
  have c7:=hC 7 _ rfl
  have c8:=hC 8 _ rfl
  simp only [Nat.add_zero] at c0
  have SN0:=fun w' (hb':Below wr.heap.size wr w')=>tnodeLine (zE6 D i) (D.SA i) (D.SC i) hvl w' (HE.out.below (zA1 HM.out.bl hb')) (tab_edl (htab.below (nl _) hb'))
  rw [ncs_of] at SN0
  have SN:=LH SN0
  obtain ⟨lt,hlt2⟩:∃lt,ndT (zE6 D i)++[10]=lt:=⟨_,rfl⟩
  rw [hlt2] at SN HEQ
  have HLL:Hid (lt.length≤3000):=by show _≤_;rw [←hlt2,List.length_append,List.length_cons,List.length_nil];omega
  have HLN2:Hid ((netT (recN D i) (recL K 0)).length≤300000):=by show _≤_;omega
  unfold ndA at SN
  clear hi' hC htab hlt hvl hxl SN0 hlt2 hln
  go_upto_region 7 with fail
  have hal:Below wr.heap.size wr (wr.alloc (Obj.cells (ndA D i) 55)):=(bR _ wr).alloc (nl _) _
  have HBG:Hid (Blk (wr.alloc (Obj.cells (ndA D i) 55)) wr.heap.size 55 (ndA D i)):=Blk.new _ _ _
  have HM4:=LH (HM.out.call hal)
  have HW4:=LH hal
  clear hal c0 c1 c2 c3 c4 c5 c6 c7 c8 hbk
  unfold ndA at HBG HM4 HW4
  generalize wr.alloc (Obj.cells _ 55)=w4 at HBG HM4 HW4⊢
  generalize wr.heap.size=G at HBG⊢
  obtain ⟨q0,q1,q2,q3,q4,q5,q6,q7,q8⟩:=blk9 HBG.out
  go_wp2_with (first
   |(go_at_call 84
     with_reducible refine (SN.out _ HW4.out).mono ?_
     rintro e w5 ⟨rfl,hb5⟩
     have HM5:=LH (HM4.out.call hb5)
     clear hb5)
   |(go_at_call 83
     refine (HM5.out.put HLN2.out lt HLL.out).mono ?_
     rintro e w6 ⟨⟨v6,rfl⟩,hm6⟩
     have HM6:=LH hm6
     clear hm6))
  go_roundw
  case rel=>exact ⟨i',HI',rfl,by have:=HM6.out;rw [←HEQ.out] at this;exact this⟩
  case measure=>exact HMS.out
end Go.Proofs.YtghefgifhebniaaGreatDoor

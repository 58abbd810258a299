/- Merged texts of these proofs: ScU, ScV. -/
import Derived.Test.YtchakniaoeodmaaGreatDoorMgT
namespace Go.Proofs.YtchakniaoeodmaaGreatDoor
open Go.RowKit
set_option linter.unusedVariables false
set_option linter.unusedSimpArgs false
set_option maxRecDepth 100000 in
set_option maxHeartbeats 8000000 in
theorem sc_used3 (A1 A2:Option Addr) (n1 c1 n2 c2:Nat) (k1 ax ay iv gd rs k2 ln up dn wd hh:Int) (s t fr tw sc:ByteArray) (pt:Bool) (w:World):Calls Tryz.prog 99 #[.agg #[.int .i64 3,.string s,.int .i64 k1,.int .i64 ax,.int .i64 ay,.int .i64 iv,.int .i64 gd,.slice A1 n1 c1,.bool pt,.int .i64 rs,.string t,.string fr,.string tw,.int .i64 k2,.int .i64 ln,.int .i64 up,.int .i64 dn,.string sc,.int .i64 wd,.int .i64 hh,.slice A2 n2 c2]] w fun e w'=>e= .returned (.agg (cNm 3 s))∧Below w.heap.size w w':=by
 have HAL:Hid (Below w.heap.size w ((w.alloc (Obj.cells #[.int .i64 3,.string s,.int .i64 k1,.int .i64 ax,.int .i64 ay,.int .i64 iv,.int .i64 gd,.slice A1 n1 c1,.bool pt,.int .i64 rs,.string t,.string fr,.string tw,.int .i64 k2,.int .i64 ln,.int .i64 up,.int .i64 dn,.string sc,.int .i64 wd,.int .i64 hh,.slice A2 n2 c2] 34)).alloc (Obj.cells cZc 34))):=((bR _ w).alloc (nl _) _).alloc (by simp) _
 have HC:Hid (Blk ((w.alloc (Obj.cells #[.int .i64 3,.string s,.int .i64 k1,.int .i64 ax,.int .i64 ay,.int .i64 iv,.int .i64 gd,.slice A1 n1 c1,.bool pt,.int .i64 rs,.string t,.string fr,.string tw,.int .i64 k2,.int .i64 ln,.int .i64 up,.int .i64 dn,.string sc,.int .i64 wd,.int .i64 hh,.slice A2 n2 c2] 34)).alloc (Obj.cells cZc 34)) w.heap.size 34 #[.int .i64 3,.string s,.int .i64 k1,.int .i64 ax,.int .i64 ay,.int .i64 iv,.int .i64 gd,.slice A1 n1 c1,.bool pt,.int .i64 rs,.string t,.string fr,.string tw,.int .i64 k2,.int .i64 ln,.int .i64 up,.int .i64 dn,.string sc,.int .i64 wd,.int .i64 hh,.slice A2 n2 c2]):=(Blk.new _ _ _).alloc _
 have HR:Hid (Blk ((w.alloc (Obj.cells #[.int .i64 3,.string s,.int .i64 k1,.int .i64 ax,.int .i64 ay,.int .i64 iv,.int .i64 gd,.slice A1 n1 c1,.bool pt,.int .i64 rs,.string t,.string fr,.string tw,.int .i64 k2,.int .i64 ln,.int .i64 up,.int .i64 dn,.string sc,.int .i64 wd,.int .i64 hh,.slice A2 n2 c2] 34)).alloc (Obj.cells cZc 34)) (w.heap.size+1) 34 cZc):=by have h:=Blk.new (w.alloc (Obj.cells #[.int .i64 3,.string s,.int .i64 k1,.int .i64 ax,.int .i64 ay,.int .i64 iv,.int .i64 gd,.slice A1 n1 c1,.bool pt,.int .i64 rs,.string t,.string fr,.string tw,.int .i64 k2,.int .i64 ln,.int .i64 up,.int .i64 dn,.string sc,.int .i64 wd,.int .i64 hh,.slice A2 n2 c2] 34)) 34 cZc;rw [zB0] at h;exact h
 have HSZ:Hid (((w.alloc (Obj.cells #[.int .i64 3,.string s,.int .i64 k1,.int .i64 ax,.int .i64 ay,.int .i64 iv,.int .i64 gd,.slice A1 n1 c1,.bool pt,.int .i64 rs,.string t,.string fr,.string tw,.int .i64 k2,.int .i64 ln,.int .i64 up,.int .i64 dn,.string sc,.int .i64 wd,.int .i64 hh,.slice A2 n2 c2] 34)).alloc (Obj.cells cZc 34)).heap.size=w.heap.size+2):=by show _=_;simp
 go_enter Tryz.func99,Tryz.ntmps99
 go_upto_region 1 with fail
 generalize (w.alloc (Obj.cells #[.int .i64 3,.string s,.int .i64 k1,.int .i64 ax,.int .i64 ay,.int .i64 iv,.int .i64 gd,.slice A1 n1 c1,.bool pt,.int .i64 rs,.string t,.string fr,.string tw,.int .i64 k2,.int .i64 ln,.int .i64 up,.int .i64 dn,.string sc,.int .i64 wd,.int .i64 hh,.slice A2 n2 c2] 34)).alloc (Obj.cells cZc 34)=W at HAL HC HR HSZ⊢
 have e0:=HC.out.cell 0
 simp only [List.getElem?_toArray,List.getElem?_cons_zero,List.getElem?_cons_succ] at e0
 go_upto_region 2 with (first
  |(refine wpList_store_row rfl 34 (.tmp 3) (.tmp 6) rfl W.heap.size (cNm 3 ⟨#[]⟩) rfl rfl _ _ (Blk.new W _ _) (by kernel_rfl) rfl (by kernel_rfl) ?_))
 have HO:Hid (Blk ((W.alloc (Obj.cells cZc 34)).setRow W.heap.size (cNm 3 ⟨#[]⟩)) W.heap.size 34 (cNm 3 ⟨#[]⟩)):=(Blk.new W _ _).setRow
 have HC3:Hid (Blk ((W.alloc (Obj.cells cZc 34)).setRow W.heap.size (cNm 3 ⟨#[]⟩)) w.heap.size 34 #[.int .i64 3,.string s,.int .i64 k1,.int .i64 ax,.int .i64 ay,.int .i64 iv,.int .i64 gd,.slice A1 n1 c1,.bool pt,.int .i64 rs,.string t,.string fr,.string tw,.int .i64 k2,.int .i64 ln,.int .i64 up,.int .i64 dn,.string sc,.int .i64 wd,.int .i64 hh,.slice A2 n2 c2]):=(HC.out.alloc _).farRow (by have:=HSZ.out;omega) _
 have HR3:Hid (Blk ((W.alloc (Obj.cells cZc 34)).setRow W.heap.size (cNm 3 ⟨#[]⟩)) (w.heap.size+1) 34 cZc):=(HR.out.alloc _).farRow (by have:=HSZ.out;omega) _
 have HAL3:Hid (Below w.heap.size w ((W.alloc (Obj.cells cZc 34)).setRow W.heap.size (cNm 3 ⟨#[]⟩))):=zB4 (HAL.out.alloc HAL.out.size _) (Blk.new W _ _) HAL.out.size
 have HG:Hid (w.heap.size+2≤W.heap.size):=by show _≤_;rw [HSZ.out];exact nl _
 clear e0 HC HR HAL HSZ
 generalize (W.alloc (Obj.cells cZc 34)).setRow W.heap.size (cNm 3 ⟨#[]⟩)=W3 at HO HC3 HR3 HAL3⊢
 generalize W.heap.size=G at HO HG⊢
 have e0:=HC3.out.cell 0
 simp only [List.getElem?_toArray,List.getElem?_cons_zero,List.getElem?_cons_succ] at e0
 have o1:=HO.out.cell 1
 have f1:=HO.out.frozen 1
 have qq1:=HC3.out.cell 1
 simp only [List.getElem?_toArray,List.getElem?_cons_zero,List.getElem?_cons_succ] at o1 qq1
 go_upto_region 13 with fail
 have HO2:Hid (Blk (W3.setCell ⟨G,1,none⟩ (.string s)) G 34 (cNm 3 s)):=(HO.out.set_ 1 (.string s))
 have HR2:Hid (Blk (W3.setCell ⟨G,1,none⟩ (.string s)) (w.heap.size+1) 34 cZc):=(HR3.out.far (p:=⟨G,1,none⟩) (by show w.heap.size+1≠G;have:=HG.out;omega) (.string s))
 have HB2:Hid (Below w.heap.size w (W3.setCell ⟨G,1,none⟩ (.string s))):=(HAL3.out.setCell (p:=⟨G,1,none⟩) (by show w.heap.size≤G;have:=HG.out;omega) (.string s))
 clear HC3 HR3 HO HAL3 e0 o1 f1 qq1
 generalize (W3.setCell ⟨G,1,none⟩ (.string s))=W2 at HO2 HR2 HB2⊢
 go_wp2_with (first
  |(refine wpList_load_row rfl 34 (.tmp 3) rfl _ rfl _ _ (0,0) _ HO2.out Tryz.underlying34 rfl (by kernel_rfl) ?_)
  |(refine wpList_store_row rfl 34 (.tmp 2) (.tmp 35) rfl (w.heap.size+1) (cNm 3 s) rfl rfl _ _ HR2.out (by kernel_rfl) rfl (by kernel_rfl) ?_))
 refine bodyPost_ret (v:=.agg (cNm 3 s)) (results_cell_row Tryz.results99 _ _ (w.heap.size+1) 34 (cNm 3 s) (0,0) _ (by rfl) HR2.out.setRow Tryz.underlying34 rfl (by kernel_rfl)) rfl ⟨rfl,?_⟩
 exact zB4 HB2.out HR2.out (by omega)
theorem zR5 {P:Program} {fn:Func} {p q:Tmp} {ty:TypeId} (h:fn.results=#[.cell p ty,.tmp q]) (tmps:Array Value) (w:World) (g:Nat) (t:TypeId) (cs:Array Value) (d:TypeDesc)
 (hp:tmps.getD p undef= .pointer (some ⟨g,0,none⟩)) (hg:Blk w g t cs) (hu:P.underlying ty=some d) (hd:(match d with | .struct _ | .array _ _=>true |_=>false)=true) (hi:(P.info? ty).map (·.size)=some cs.size) (v:Value) (hv:tmps.getD q undef=v):
 (results fn tmps).run P w= .ok (.tuple #[.agg cs,v]) w:=by
 have hp':tmps[p]?.getD undef= .pointer (some ⟨g,0,none⟩):=by simpa using hp
 have hv':tmps[q]?.getD undef=v:=by simpa using hv
 simp [results,h,hp',hv',asAddr,run_loadVar_row w g t ty cs (0,0) d hg hu hd hi]
def zDn:Nds:=⟨fun _=>⟨#[]⟩,fun _=>0,fun _=>0,fun _=>0,fun _=>0,fun _=>0,fun _=>none,fun _=>0,fun _=>0,fun _ _=>0,fun _ _=>0,fun _=>false,fun _=>0⟩
def zKl:Lks:=⟨fun _=>⟨#[]⟩,fun _=>⟨#[]⟩,fun _=>⟨#[]⟩,fun _=>0,fun _=>0,fun _=>0,fun _=>0,fun _=>⟨#[]⟩,fun _=>0,fun _=>0,fun _=>none,fun _=>0,fun _=>0,fun _ _=>0,fun _ _=>0⟩
end Go.Proofs.YtchakniaoeodmaaGreatDoor

/- Merged texts of these proofs: ScAw, ScUP. -/
import Derived.Test.YtchakniaoeodmaaGreatDoorMgPax
import Derived.Test.YtchakniaoeodmaaGreatDoorScD
namespace Go.Proofs.YtchakniaoeodmaaGreatDoor
open Go.RowKit
set_option linter.unusedVariables false
set_option linter.unusedSimpArgs false
theorem zK2 {k:Nat} (h:k<1):k=0:=by omega
theorem aw_chs {w:World} {g:Nat} (hb:Blk w g 34 (cNm 3 ⟨#[97]⟩)):ChsIn w (some ⟨g,0,none⟩) 1 (fun _=>3) (dqN ⟨#[97]⟩) (dqL ⟨#[]⟩):=by
 refine ⟨by omega,.inr ⟨g,0,rfl,hb.lt,fun k hk=>?_⟩⟩
 obtain rfl:=zK2 hk
 exact ⟨hb.cells,zB9 _ _ _,zB9 _ _ _⟩
def awS:Nat→List UInt8:=fun _=>[100,114,111,112,32,110,111,100,101,32,97,10]
theorem aw_line:((⟨#[100,114,111,112,32,110,111,100,101,32]⟩++(⟨#[97]⟩:ByteArray))++⟨#[10]⟩:ByteArray)=⟨(awS 0).toArray⟩:=by
 apply ByteArray.ext
 simp [awS]
theorem nm97:zD1 (⟨#[97]⟩:ByteArray).data.toList=true:=by decide
theorem mx97:(⟨#[97]⟩:ByteArray).size≤maxLen:=by show 1≤maxLen;unfold maxLen;omega
set_option maxRecDepth 100000 in
theorem aw_text (g:Nat) (w:World) (hb:Blk w g 34 (cNm 3 ⟨#[97]⟩)):Calls Tryz.prog 19 #[.slice (some ⟨g,0,none⟩) 1 1] w fun e w'=>e= .returned (.tuple #[.string ⟨#[100,114,111,112,32,110,111,100,101,32,97,10]⟩,.int .i64 0])∧Below w.heap.size w w':=by
 refine (sc_text _ 1 1 (fun _=>3) (dqN ⟨#[97]⟩) (dqL ⟨#[]⟩) awS w (by omega) (aw_chs hb) (fun k _=>by show ([100,114,111,112,32,110,111,100,101,32,97,10]:List UInt8).length≤3000;decide) ?_ ?_).mono ?_
 ·intro i hi w' hw
  obtain rfl:=zK2 hi
  refine sc_text1 3 0 0 (dqN ⟨#[97]⟩) (dqL ⟨#[]⟩) w' true true ?_ ?_
  ·intro w2 _
   exact sc_right3 0 0 (dqN ⟨#[97]⟩) (dqL ⟨#[]⟩) w2 true mx97 nm97
  ·intro w2 _
   have h:=sc_plain_of 3 3 0 0 0 0 (dqN ⟨#[97]⟩) (dqN ⟨#[97]⟩) (dqL ⟨#[]⟩) (dqL ⟨#[]⟩) w2 (zB9 _ _ _) (zB9 _ _ _) (zB9 _ _ _) (zB9 _ _ _) (fun w3=>sc_used3 none none 0 0 0 0 0 0 0 0 0 0 0 0 0 0 0 0 ⟨#[97]⟩ ⟨#[]⟩ ⟨#[]⟩ ⟨#[]⟩ ⟨#[]⟩ false w3)
   rw [zA2 ⟨rfl,rfl⟩] at h
   exact h
 ·intro i hi w' hw
  obtain rfl:=zK2 hi
  refine (sc_line3 0 0 (dqN ⟨#[97]⟩) (dqL ⟨#[]⟩) w' (by show 1≤3000;omega)).mono ?_
  rintro e w2 ⟨he,hb2⟩
  refine ⟨he.trans ?_,hb2⟩
  rw [←aw_line]
  rfl
 ·rintro e w2 ⟨he,hb2⟩
  exact ⟨he,hb2⟩
theorem aw_lines:lineOK [100,114,111,112,32,110,111,100,101,32,97,10]:=⟨[100,114,111,112,32,110,111,100,101,32,97],rfl,by decide⟩
def awP:Nat→ByteArray:=fun k=>if k=0 then ⟨#[100,114,111,112,32,110,111,100,101,32,97,10]⟩ else ⟨#[]⟩
theorem aw_end:endC ⟨#[100,114,111,112,32,110,111,100,101,32,97,10]⟩=⟨#[100,114,111,112,32,110,111,100,101,32,97]⟩∧endB ⟨#[100,114,111,112,32,110,111,100,101,32,97,10]⟩=true:=by
 obtain ⟨h1,h2⟩:=end_of (s:=⟨#[100,114,111,112,32,110,111,100,101,32,97,10]⟩) (a:=[100,114,111,112,32,110,111,100,101,32,97]) rfl
 refine ⟨?_,h1⟩
 apply ByteArray.ext
 apply Array.ext'
 exact h2
theorem aw_cut:cutA ⟨#[100,114,111,112,32,110,111,100,101,32,97]⟩ 32=⟨#[100,114,111,112]⟩∧cutB ⟨#[100,114,111,112,32,110,111,100,101,32,97]⟩ 32=⟨#[110,111,100,101,32,97]⟩∧cutA ⟨#[110,111,100,101,32,97]⟩ 32=⟨#[110,111,100,101]⟩∧cutB ⟨#[110,111,100,101,32,97]⟩ 32=⟨#[97]⟩:=by
 refine ⟨?_,?_,?_,?_⟩<;> rfl
set_option maxRecDepth 100000 in
theorem aw_parse (w:World):Calls Tryz.prog 13 #[.string ⟨#[100,114,111,112,32,110,111,100,101,32,97,10]⟩] w fun e w'=>∃(A:Option Addr) (c:Nat) (Kd:Nat→Int) (D:Nds) (K:Lks),e= .returned (.tuple #[.slice A 1 c,.agg #[.int .i64 0,.int .i64 0],.int .i64 0])∧ChsIn w' A 1 Kd D K∧chrR (Kd 0) D 0 K 0=dropA∧Below w.heap.size w w':=by
 refine (sc_parse ⟨#[100,114,111,112,32,110,111,100,101,32,97,10]⟩ 1 2 awP (fun _ c=>c=dropA) (fun _=>False) w (by decide) (by omega) (by omega) (.inl ⟨rfl,rfl⟩) (fun k hk=>?_) (fun k hk=>?_) ?_ ?_).mono ?_
 ·obtain rfl:=zK2 hk
  show (12:Nat)≤8388608
  omega
 ·obtain rfl:=zK2 hk
  intro h
  rw [show awP 0=⟨#[100,114,111,112,32,110,111,100,101,32,97,10]⟩ from rfl,aw_end.2] at h
  cases h
 ·intro w' _
  refine (tsplita [[100,114,111,112,32,110,111,100,101,32,97,10]] (fun l hl=>by rw [List.mem_singleton.1 hl];exact aw_lines) (by decide) w').mono ?_
  rintro e w2 ⟨he,rfl⟩
  refine ⟨w'.heap.size,he,by simp,fun k hk=>?_,(bR _ w').alloc (nl _) _⟩
  have hb:=Blk.new w' 9 (spaC [[100,114,111,112,32,110,111,100,101,32,97,10]])
  have h2:=hb.cell k
  rcases (show k=0∨k=1 by omega) with rfl |rfl
  ·exact h2
  ·exact h2
 ·intro k hk w' _
  obtain rfl:=zK2 hk
  rw [show awP 0=⟨#[100,114,111,112,32,110,111,100,101,32,97,10]⟩ from rfl,aw_end.1]
  obtain ⟨c1,c2,c3,c4⟩:=aw_cut
  refine (sc_read3 _ _ _ true w' (by decide) c1 c2 c3 c4 nm97).mono ?_
  rintro e w2 ⟨he,hb⟩
  exact ⟨3,dqN ⟨#[97]⟩,dqL ⟨#[]⟩,0,0,true,he,zB9 _ _ _,zB9 _ _ _,fun h=>absurd rfl h,fun h=>absurd rfl h,fun _=>dropA_r,fun h=>(by cases h),hb⟩
 ·rintro e w2 (⟨l,u,hl,hq,rfl,hp⟩|⟨k,hk,hbad,_⟩)
  ·obtain ⟨A,c,Kd,D,K,rfl,hc,hr,hb⟩:=hp.read (by rw [hl];omega)
   rw [hl] at hc hr⊢
   refine ⟨A,c,Kd,D,K,rfl,hc,?_,hb⟩
   have h0:=recC_at (Kd:=Kd) (D:=D) (K:=K) (show 0<1 by omega)
   rw [hr] at h0
   exact hq 0 _ h0
  ·exact hbad.elim
theorem oD_in {w:World} {g:Nat} (h:Blk w g 30 #[.string ⟨#[111]⟩,.int .i64 3,.int .i64 0,.int .i64 0,.int .i64 0,.int .i64 0,.slice none 0 0,.bool false,.int .i64 0]):NdIn w (some ⟨g,0,none⟩) 1 oD:=by
 refine ⟨by omega,.inr ⟨g,0,rfl,h.lt,fun k hk=>?_⟩⟩
 obtain rfl:=zK2 hk
 exact ⟨h.cells,zB9 _ _ _⟩
set_option maxRecDepth 100000 in
theorem aw_diff (g:Nat) (w:World) (hb:Blk w g 30 #[.string ⟨#[111]⟩,.int .i64 3,.int .i64 0,.int .i64 0,.int .i64 0,.int .i64 0,.slice none 0 0,.bool false,.int .i64 0]):Calls Tryz.prog 29 #[.agg #[.slice (some ⟨g,0,none⟩) 1 1,.slice none 0 0],.agg #[.slice none 0 0,.slice none 0 0]] w fun e w'=>∃(A:Option Addr) (c:Nat) (Kd:Nat→Int) (D:Nds) (K:Lks),e= .returned (.tuple #[.slice A 1 c,.int .i64 0])∧ChsIn w' A 1 Kd D K∧Kd 0=3∧Below w.heap.size w w':=by
 refine (sc_Diff (some ⟨g,0,none⟩) none none none 1 1 0 0 0 0 0 0 oD zDn zKl zKl w vs_o vs_nil (oD_in hb) (zU3 _ _) (nd_none _ _) (zU3 _ _)).mono ?_
 rintro e w2 ⟨u,rfl,hp⟩
 rw [show dfF (recN oD 1) (recL zKl 0) (recN zDn 0) (recL zKl 0)=[zV4 ⟨#[111]⟩] from df_o] at hp
 obtain ⟨A,c,Kd,D,K,rfl,hc,hr,hb⟩:=hp.read (by show 1≤300000;omega)
 refine ⟨A,c,Kd,D,K,rfl,hc,?_,hb⟩
 have h0:=recC_at (Kd:=Kd) (D:=D) (K:=K) (show 0<1 by omega)
 rw [show recC Kd D K 1=[zV4 ⟨#[111]⟩] from hr] at h0
 have h1:zV4 ⟨#[111]⟩=chrR (Kd 0) D 0 K 0:=by simpa using h0
 exact (congrArg Chr.kd h1).symm
set_option maxRecDepth 100000 in
theorem aw_apply (w:World):Calls Tryz.prog 31 #[.agg #[.slice none 0 0,.slice none 0 0],.agg #[.int .i64 1,.string ⟨#[111]⟩,.int .i64 3,.int .i64 0,.int .i64 0,.int .i64 0,.int .i64 0,.slice none 0 0,.bool false,.int .i64 0,.string ⟨#[]⟩,.string ⟨#[]⟩,.string ⟨#[]⟩,.int .i64 0,.int .i64 0,.int .i64 0,.int .i64 0,.string ⟨#[]⟩,.int .i64 0,.int .i64 0,.slice none 0 0]] w fun e w'=>∃(A B:Option Addr) (c d:Nat),e= .returned (.tuple #[.agg #[.slice A 1 c,.slice B 0 d],.int .i64 0])∧Below w.heap.size w w':=by
 refine (sc_Apply none none 0 0 0 0 0 0 1 zDn oD zKl (dqL ⟨#[]⟩) w vs_nil.zz (show ZN oR from oR_v.z) (show ZL zLk from ⟨by show 0≤maxLen;exact Nat.zero_le _,by show 0≤maxLen;exact Nat.zero_le _,by show 0≤maxLen;exact Nat.zero_le _,by show 0≤maxLen;exact Nat.zero_le _,by show 0≤2000;omega⟩) (nd_none _ _) (zU3 _ _) (zB9 _ _ _) (zB9 _ _ _)).mono ?_
 rintro e w2 ⟨u,rfl,hp⟩
 rw [show ApE (recN zDn 0) (recL zKl 0) (chrR 1 oD 0 (dqL ⟨#[]⟩) 0)=0 from ap_o.1]
 obtain ⟨NM,LM,A,B,c,d,e1,e2,rfl,_,hb⟩:=hp
 have hn:(ApN (recN zDn 0) (recL zKl 0) (chrR 1 oD 0 (dqL ⟨#[]⟩) 0)).length=1:=by rw [show ApN (recN zDn 0) (recL zKl 0) (chrR 1 oD 0 (dqL ⟨#[]⟩) 0)=[oR] from ap_o.2];rfl
 have hl:(ApL (recN zDn 0) (recL zKl 0) (chrR 1 oD 0 (dqL ⟨#[]⟩) 0)).length=0:=by
  unfold ApL
  rw [show ApE (recN zDn 0) (recL zKl 0) (chrR 1 oD 0 (dqL ⟨#[]⟩) 0)=0 from ap_o.1,if_pos rfl,zT7 (show (1:Int)≤3 by omega)]
  rfl
 rw [hn,hl]
 exact ⟨A,B,c,d,rfl,hb⟩
set_option maxRecDepth 100000 in
set_option maxHeartbeats 8000000 in
theorem zV8 (w:World):Calls Tryz.prog 10 #[] w fun e w'=>e= .returned (.bool true)∧Below w.heap.size w w':=by
 go_enter Tryz.func10,Tryz.ntmps10
 go_upto_region 2 with (first
  |(refine wpList_store_row rfl 30 (.tmp 1) (.tmp 12) rfl w.heap.size #[.string ⟨#[111]⟩,.int .i64 3,.int .i64 0,.int .i64 0,.int .i64 0,.int .i64 0,.slice none 0 0,.bool false,.int .i64 0] rfl rfl _ _ (Blk.new w _ _) (by kernel_rfl) rfl (by kernel_rfl) ?_))
 have HB1:Hid (Below w.heap.size w ((w.alloc (Obj.cells #[.string ⟨#[]⟩,.int .i64 0,.int .i64 0,.int .i64 0,.int .i64 0,.int .i64 0,.slice none 0 0,.bool false,.int .i64 0] 30)).setRow w.heap.size #[.string ⟨#[111]⟩,.int .i64 3,.int .i64 0,.int .i64 0,.int .i64 0,.int .i64 0,.slice none 0 0,.bool false,.int .i64 0])):=zB4 ((bR _ w).alloc (nl _) _) (Blk.new w 30 _) (nl _)
 have HO1:Hid (Blk ((w.alloc (Obj.cells #[.string ⟨#[]⟩,.int .i64 0,.int .i64 0,.int .i64 0,.int .i64 0,.int .i64 0,.slice none 0 0,.bool false,.int .i64 0] 30)).setRow w.heap.size #[.string ⟨#[111]⟩,.int .i64 3,.int .i64 0,.int .i64 0,.int .i64 0,.int .i64 0,.slice none 0 0,.bool false,.int .i64 0]) w.heap.size 30 #[.string ⟨#[111]⟩,.int .i64 3,.int .i64 0,.int .i64 0,.int .i64 0,.int .i64 0,.slice none 0 0,.bool false,.int .i64 0]):=(Blk.new w 30 _).setRow
 generalize (w.alloc (Obj.cells #[.string ⟨#[]⟩,.int .i64 0,.int .i64 0,.int .i64 0,.int .i64 0,.int .i64 0,.slice none 0 0,.bool false,.int .i64 0] 30)).setRow w.heap.size #[.string ⟨#[111]⟩,.int .i64 3,.int .i64 0,.int .i64 0,.int .i64 0,.int .i64 0,.slice none 0 0,.bool false,.int .i64 0]=w1 at HB1 HO1⊢
 go_upto_region 3 with (first
  |(refine wpList_store_row rfl 34 (.tmp 2) (.tmp 14) rfl w1.heap.size (cNm 3 ⟨#[97]⟩) rfl rfl _ _ (Blk.new w1 _ _) (by kernel_rfl) rfl (by kernel_rfl) ?_))
 have hal:Below w1.heap.size w1 ((w1.alloc (Obj.cells cZc 34)).setRow w1.heap.size (cNm 3 ⟨#[97]⟩)):=zB4 ((bR _ w1).alloc (nl _) _) (Blk.new w1 34 _) (nl _)
 have HC2:Hid (Blk ((w1.alloc (Obj.cells cZc 34)).setRow w1.heap.size (cNm 3 ⟨#[97]⟩)) w1.heap.size 34 (cNm 3 ⟨#[97]⟩)):=(Blk.new w1 34 _).setRow
 have HB2:=LH (zA1 HB1.out hal)
 have HO2:=LH (HO1.out.call hal)
 clear hal HB1 HO1
 generalize (w1.alloc (Obj.cells cZc 34)).setRow w1.heap.size (cNm 3 ⟨#[97]⟩)=w2 at HC2 HB2 HO2⊢
 generalize w1.heap.size=GC at HC2⊢
 have HTX:Hid (Blk (w2.alloc (Obj.cells (cNm 3 ⟨#[97]⟩) 34)) w2.heap.size 34 (cNm 3 ⟨#[97]⟩)):=Blk.new _ _ _
 have HBX:Hid (Below w2.heap.size w2 (w2.alloc (Obj.cells (cNm 3 ⟨#[97]⟩) 34))):=(bR _ w2).alloc (nl _) _
 go_upto_region 4 with (first
  |(refine wpList_load_row rfl 34 (.tmp 2) rfl _ rfl _ _ (0,0) _ HC2.out Tryz.underlying34 rfl (by kernel_rfl) ?_)
  |(go_at_call 19
    with_reducible refine (aw_text _ _ HTX.out).mono ?_
    rintro e w3 ⟨rfl,hb3⟩
    have hq:=zA1 HBX.out hb3
    have HC3:=LH (HC2.out.call hq)
    have HB3:=LH (zA1 HB2.out hq)
    have HO3:=LH (HO2.out.call hq)
    clear hb3 hq))
 go_upto_region 5 with (first
  |(go_at_call 13
    with_reducible refine (aw_parse _).mono ?_
    rintro e w4 ⟨Al,cl,Kd,D,K,rfl,hcs,hr,hb4⟩
    have HC4:=LH (HC3.out.call hb4)
    have HB4:=LH (zA1 HB3.out hb4)
    have HO4:=LH (HO3.out.call hb4)
    have HCS:=LH hcs
    have HR:=LH hr
    clear hb4 hcs hr))
 have hal5:Below w4.heap.size w4 (w4.alloc (Obj.cells #[.int .i64 0,.int .i64 0] 37)):=(bR _ w4).alloc (nl _) _
 have HC5:=LH (HC4.out.call hal5)
 have HB5:=LH (zA1 HB4.out hal5)
 have HO5:=LH (HO4.out.call hal5)
 have HS5:=LH (HCS.out.below (nl _) hal5)
 clear HC2 HB2 HO2 HTX HBX HC3 HB3 HO3 HC4 HB4 HO4 HCS hal5
 generalize w4.alloc (Obj.cells #[.int .i64 0,.int .i64 0] 37)=w5 at HC5 HB5 HO5 HS5⊢
 have HTX:Hid (Blk (w5.alloc (Obj.cells #[.string ⟨#[111]⟩,.int .i64 3,.int .i64 0,.int .i64 0,.int .i64 0,.int .i64 0,.slice none 0 0,.bool false,.int .i64 0] 30)) w5.heap.size 30 #[.string ⟨#[111]⟩,.int .i64 3,.int .i64 0,.int .i64 0,.int .i64 0,.int .i64 0,.slice none 0 0,.bool false,.int .i64 0]):=Blk.new _ _ _
 have HBX:Hid (Below w5.heap.size w5 (w5.alloc (Obj.cells #[.string ⟨#[111]⟩,.int .i64 3,.int .i64 0,.int .i64 0,.int .i64 0,.int .i64 0,.slice none 0 0,.bool false,.int .i64 0] 30))):=(bR _ w5).alloc (nl _) _
 go_upto_region 6 with (first
  |(refine wpList_load_row rfl 30 (.tmp 1) rfl _ rfl _ _ (0,0) _ HO5.out Tryz.underlying30 rfl (by kernel_rfl) ?_)
  |(go_at_call 29
    with_reducible refine (aw_diff _ _ HTX.out).mono ?_
    rintro e w6 ⟨Ad,cd,Kd2,D2,K2,rfl,hcs,hr,hb6⟩
    have hq:=zA1 HBX.out hb6
    have HC6:=LH (HC5.out.call hq)
    have HB6:=LH (zA1 HB5.out hq)
    have HO6:=LH (HO5.out.call hq)
    have HS6:=LH (HS5.out.below (nl _) hq)
    have HD6:=LH hcs
    have HR2:=LH hr
    clear hb6 hcs hr hq))
 go_upto_region 7 with (first
  |(refine wpList_load_row rfl 30 (.tmp 1) rfl _ rfl _ _ (0,0) _ HO6.out Tryz.underlying30 rfl (by kernel_rfl) ?_)
  |(go_at_call 31
    with_reducible refine (aw_apply _).mono ?_
    rintro e w8 ⟨AN,BN,cn,dn,rfl,hb8⟩
    have HC8:=LH (HC6.out.call hb8)
    have HB8:=LH (zA1 HB6.out hb8)
    have HS8:=LH (HS6.out.below (nl _) hb8)
    have HD8:=LH (HD6.out.below (nl _) hb8)
    clear hb8))
 have hal9:Below w8.heap.size w8 (w8.alloc (Obj.cells #[.slice AN 1 cn,.slice BN 0 dn] 52)):=(bR _ w8).alloc (nl _) _
 have HC9:=LH (HC8.out.call hal9)
 have HB9:=LH (zA1 HB8.out hal9)
 have HS9:=LH (HS8.out.below (nl _) hal9)
 have HD9:=LH (HD8.out.below (nl _) hal9)
 have HN9:Hid (Blk (w8.alloc (Obj.cells #[.slice AN 1 cn,.slice BN 0 dn] 52)) w8.heap.size 52 #[.slice AN 1 cn,.slice BN 0 dn]):=Blk.new _ _ _
 clear HC5 HB5 HO5 HS5 HTX HBX HC6 HB6 HO6 HS6 HD6 HC8 HB8 HS8 HD8 hal9
 generalize w8.alloc (Obj.cells #[.slice AN 1 cn,.slice BN 0 dn] 52)=w9 at HC9 HB9 HS9 HD9 HN9⊢
 generalize w8.heap.size=GN at HN9⊢
 obtain ⟨bl,offl,rfl,hbl,hcl,htl1,htl2⟩:=HS9.out.at (show 0<1 by omega)
 obtain ⟨bd,offd,rfl,hbd,hcd,_,_⟩:=HD9.out.at (show 0<1 by omega)
 rw [Nat.zero_mul,Nat.add_zero] at hcl hcd
 have hkd:=hcd 0 _ rfl
 rw [HR2.out,Nat.add_zero] at hkd
 have SS:Hid (∀w',Below w9.heap.size w9 w'→Calls Tryz.prog 16 #[.agg (chv (Kd 0) D 0 K 0).toArray,.agg (cNm 3 ⟨#[97]⟩)] w' fun e w''=>e= .returned (.bool true)∧Below w'.heap.size w' w''):=fun w' hb=>by
  have h:=r_same (Kd 0) 3 0 0 0 0 D (dqN ⟨#[97]⟩) K (dqL ⟨#[]⟩) w' (htl1.below (nl _) hb) (htl2.below (nl _) hb) (zB9 _ _ _) (zB9 _ _ _)
  rw [zA2 (HR.out.trans dropA_r.symm)] at h
  exact h
 have HS:Hid (∀w',Below w9.heap.size w9 w'→w'.rangeAt bl offl (chv (Kd 0) D 0 K 0)∧w'.rangeAt GC 0 [.int .i64 3,.string ⟨#[97]⟩,.int .i64 0,.int .i64 0,.int .i64 0,.int .i64 0,.int .i64 0,.slice none 0 0,.bool false,.int .i64 0,.string ⟨#[]⟩,.string ⟨#[]⟩,.string ⟨#[]⟩,.int .i64 0,.int .i64 0,.int .i64 0,.int .i64 0,.string ⟨#[]⟩,.int .i64 0,.int .i64 0,.slice none 0 0]∧w'.cell? ⟨bd,offd,none⟩=some (.int .i64 3)∧w'.cell? ⟨GN,0,none⟩=some (.slice AN 1 cn)):=fun w' hb=>⟨hcl.below hb hbl,(HC9.out.call hb).cells,(hb.cell (p:=⟨bd,offd,none⟩) hbd).trans hkd,(HN9.out.call hb).cell 0⟩
 clear hcl hcd hkd htl1 htl2 hbl hbd HS9 HD9 HR HR2 HC9 HN9
 refine wp_region_held_drew (S:=fun w'=>w'.rangeAt bl offl (chv (Kd 0) D 0 K 0)∧w'.rangeAt GC 0 [.int .i64 3,.string ⟨#[97]⟩,.int .i64 0,.int .i64 0,.int .i64 0,.int .i64 0,.int .i64 0,.slice none 0 0,.bool false,.int .i64 0,.string ⟨#[]⟩,.string ⟨#[]⟩,.string ⟨#[]⟩,.int .i64 0,.int .i64 0,.int .i64 0,.int .i64 0,.string ⟨#[]⟩,.int .i64 0,.int .i64 0,.slice none 0 0]∧w'.cell? ⟨bd,offd,none⟩=some (.int .i64 3)∧w'.cell? ⟨GN,0,none⟩=some (.slice AN 1 cn)) (by kernel_rfl) ?_ (fun hHeld=>?_)
 ·exact HS.out _ (bR w9.heap.size w9).drew
 refine tkD 0 (some 41) ?_
 refine tkD 1 (some 42) ?_
 refine tkD 2 (some 43) ?_
 refine tkD 3 (some 44) ?_
 refine tkD 4 (some 45) ?_
 refine tkD 5 (some 46) ?_
 refine tkD 6 (some 47) ?_
 refine tkD 7 (some 48) ?_
 refine tkD 8 (some 49) ?_
 refine tkD 9 (some 50) ?_
 refine tkD 10 (some 51) ?_
 refine tkD 11 (some 52) ?_
 refine tkD 12 (some 53) ?_
 refine tkD 13 (some 54) ?_
 refine tkD 14 (some 55) ?_
 refine tkD 15 (some 56) ?_
 refine tkD 16 (some 57) ?_
 refine tkD 17 (some 58) ?_
 refine tkD 18 (some 59) ?_ (hy:=yieldsIf_load_mid (by rfl) 34 (.tmp 58) rfl bl offl rfl _ _ (fun w h=>h.1) Tryz.underlying34 rfl (by kernel_rfl))
 refine tkD 19 (some 60) ?_ (hy:=yieldsIf_load_mid (by rfl) 34 (.tmp 2) rfl GC 0 rfl _ _ (fun w h=>h.2.1) Tryz.underlying34 rfl (by kernel_rfl))
 refine wpAnyH_ready (rs:=[20]) (by kernel_rfl) (by simp) ?_
 refine AllReadyH.cons rfl (fun K0 hK=>?_) AllReadyH.nil
 go_simp
 go_at_call 16
 with_reducible refine (SS.out _ (bR w9.heap.size w9).drew).mono ?_
 rintro e w10 ⟨rfl,hb10⟩
 have hq10:Below w9.heap.size w9 w10:=(bR w9.heap.size w9).drew.trans hb10
 clear hb10
 go_wp2_with fail
 refine hK.out _ _ (HS.out _ hq10) (fun hHeld1=>?_)
 clear hK K0 hHeld
 (try simp only [Act.put,sA,sB,sC])
 refine tkD 21 (some 62) ?_
 refine tkD 22 (some 63) ?_
 refine tkD 23 (some 64) ?_
 refine tkD 24 (some 65) ?_
 refine tkD 25 (some 66) ?_
 refine tkD 26 (some 67) ?_
 refine tkD 27 (some 68) ?_
 refine tkD 28 (some 69) ?_
 refine tkD 29 (some 70) ?_
 refine tkD 30 (some 71) ?_
 refine tkD 31 (some 72) ?_
 refine tkD 32 (some 73) ?_
 refine tkD 33 (some 74) ?_
 refine tkD 34 (some 75) ?_
 refine tkD 35 (some 76) ?_
 refine tkD 36 (some 77) ?_
 refine tkD 37 (some 78) ?_
 refine tkD 38 (some 79) ?_
 refine tkD 39 (some 80) ?_
 refine tkD 40 (some 81) ?_
 refine tkD 41 (some 82) ?_
 refine tkD 42 (some 83) ?_
 refine tkD 43 (some 84) ?_
 refine tkD 44 (some 85) ?_
 refine tkD 45 (some 86) ?_
 refine tkD 46 (some 87) ?_
 refine tkD 47 (some 88) ?_
 refine tkD 48 (some 0) ?_
 refine wpAnyH_done (by kernel_rfl) ?_ _
 clear hHeld1
 go_wp2_with fail
 go_ret
 exact ⟨rfl,zA1 HB9.out hq10⟩
end Go.Proofs.YtchakniaoeodmaaGreatDoor

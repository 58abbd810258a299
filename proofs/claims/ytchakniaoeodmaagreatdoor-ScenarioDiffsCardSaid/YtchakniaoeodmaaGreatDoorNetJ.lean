/- rightLink of package network. -/
import Derived.Test.YtchakniaoeodmaaGreatDoorNetK
import Derived.Test.YtchakniaoeodmaaGreatDoorNetN
namespace Go.Proofs.YtchakniaoeodmaaGreatDoor
open Go.RowKit
set_option linter.unusedVariables false
set_option linter.unusedSimpArgs false
theorem zB8 {w w1 w2:World} (h1:Below w.heap.size w w1) (h2:Below w1.heap.size w1 w2):Below w.heap.size w w2:=h1.trans (h2.mono h1.size)
theorem tkD {P:Program} {ops:Array Oper} {Q:Exit→Act→World→Prop} {md:Region.Mode} {S:World→Prop} (i:Nat) (d:Option Tmp) {oi:Oper} {v:Value} {fuel:Nat} {listed:Array Bool} {a a':Act} {w:World}
 (h:wpAnyH P md ops Q S fuel (listed.setIfInBounds i true) a' w) (hi:ops[i]?=some oi:=by rfl) (hd:oi.dst=d:=by rfl)
 (hs:(Region.noSelect ops&&Region.free md ops listed i&&(Region.ready md ops listed).contains i)=true:=by kernel_rfl)
 (hQ:∀c a w,Q (.panic c) (a.put d v) w→Q (.panic c) a w:=by exact fun _ _ _ h=>h)
 (hy:YieldsIf P ops S oi v a:=by exact Or.inl ⟨by rfl,by (intro w hSw;(try dsimp only at hSw);go_simp;(try with_reducible rfl))⟩) (hS:S w:=by assumption)
 (ha:a.put d v=a':=by (conv=>lhs;(try simp only [Act.put,sA,sB,sC]))):wpAnyH P md ops Q S (fuel+1) listed a w:=by
 subst hd ha
 simp only [Bool.and_eq_true] at hs
 exact wpAnyH_take hi hs.1.1 hs.1.2 hs.2 hQ hy hS h
theorem tkDN {P:Program} {ops:Array Oper} {Q:Exit→Act→World→Prop} {md:Region.Mode} {S:World→Prop} (i:Nat) (d:Option Tmp) {oi:Oper} {fuel:Nat} {listed:Array Bool} {a a':Act} {w:World}
 (h:wpAnyH P md ops Q S fuel (listed.setIfInBounds i true) a' w) (hi:ops[i]?=some oi:=by rfl) (hd:oi.dst=d:=by rfl)
 (hs:(Region.noSelect ops&&Region.free md ops listed i&&(Region.ready md ops listed).contains i)=true:=by kernel_rfl)
 (hQ:∀c a w,Q (.panic c) (a.put d undef) w→Q (.panic c) a w:=by exact fun _ _ _ h=>h)
 (hy:YieldsIf P ops S oi undef a:=by exact Or.inr ⟨by simp [Region.wanted,yielded,undef],rfl⟩) (hS:S w:=by assumption)
 (ha:a.put d undef=a':=by (conv=>lhs;(try simp only [Act.put,sA,sB,sC]))):wpAnyH P md ops Q S (fuel+1) listed a w:=by
 subst hd ha
 simp only [Bool.and_eq_true] at hs
 exact wpAnyH_take hi hs.1.1 hs.1.2 hs.2 hQ hy hS h
theorem zI2 {w:World} {g:Nat} {t:TypeId} {a b c d e f h i j k l:Value} (x:Blk w g t #[a,b,c,d,e,f,h,i,j,k,l]):w.cell? ⟨g,5,none⟩=some f∧w.cell? ⟨g,6,none⟩=some h∧w.cell? ⟨g,7,none⟩=some i∧w.cell? ⟨g,10,none⟩=some l:=⟨x.cell 5,x.cell 6,x.cell 7,x.cell 10⟩
theorem lk_all {w:World} {g:Nat} {t:TypeId} {a b c d e f h i j k l:Value} (x:Blk w g t #[a,b,c,d,e,f,h,i,j,k,l]):w.cell? ⟨g,3,none⟩=some d∧w.cell? ⟨g,4,none⟩=some e∧w.cell? ⟨g,5,none⟩=some f∧w.cell? ⟨g,6,none⟩=some h∧w.cell? ⟨g,7,none⟩=some i∧w.cell? ⟨g,8,none⟩=some j∧w.cell? ⟨g,9,none⟩=some k∧w.cell? ⟨g,10,none⟩=some l:=⟨x.cell 3,x.cell 4,x.cell 5,x.cell 6,x.cell 7,x.cell 8,x.cell 9,x.cell 10⟩
set_option maxRecDepth 100000 in
set_option maxHeartbeats 8000000 in
theorem nlink (nm fr tn:ByteArray) (kd ln up dn:Int) (sc:ByteArray) (wd ht:Int) (A:Option Addr) (n c:Nat) (X Y:Nat→Int) (hn:nm.size≤maxLen) (hf:fr.size≤maxLen) (hto:tn.size≤maxLen) (hs:sc.size≤maxLen) (hn2:n≤2000) (w:World) (ht':TabIn w A n X Y):
 Calls Tryz.prog 114 #[.agg #[.string nm,.string fr,.string tn,.int .i64 kd,.int .i64 ln,.int .i64 up,.int .i64 dn,.string sc,.int .i64 wd,.int .i64 ht,.slice A n c]] w fun e w'=>e= .returned (.bool (boolOf (zR7 nm fr tn kd ln up dn sc wd ht n X Y)))∧Below w.heap.size w w':=by
 have HT:=LH ht'
 have s1:=fun w=>zQ9 nm hn w
 have s2:=fun w=>zQ9 fr hf w
 have s3:=fun w=>zQ9 tn hto w
 have s4:=fun w=>zQ9 sc hs w
 have sl:=fun (f:Bool) hf g c w h=>nlevel (some ⟨g,0,none⟩) 1 c (fun _=>up) (by omega) f hf w h
 have sm:=fun (f:Bool) hf g c w h=>nlevel (some ⟨g,0,none⟩) 1 c (fun _=>dn) (by omega) f hf w h
 have sn:=fun w=>zI6 ln 1 16777216 w
 have sw:=fun (m:Int) w=>zI6 wd 1 m w
 have sv:=fun w=>zI6 ht 1 32768 w
 have st:=fun w h=>zW5 A n c X Y w h
 have sp:=fun (f:Bool) hf w h=>has_pump A n c X Y w hn2 h f hf
 have hone:∀z:Int,(∀j,j<1→lvP ((fun _=>z) j))↔lvP z:=fun z=>⟨fun h=>h 0 (by omega),fun h _ _=>h⟩
 obtain ⟨V,hV⟩:∃V,V=boolOf (zR7 nm fr tn kd ln up dn sc wd ht n X Y):=⟨_,rfl⟩
 rw [←hV]
 clear ht' hn hf hto hs
 by_cases g0:zD1 nm.data.toList=true
 case neg=>
  have hVF:V=false:=by rw [hV];exact zA0 fun h=>g0 h.1
  have g0':zD1 nm.data.toList=false:=by simpa using g0
  rw [g0'] at s1
  subst hVF
  have S1:=LH s1
  have S2:=LH s2
  have S3:=LH s3
  clear hV g0 g0' s1 s2 s3 s4 sl sm sn sw sv st sp hone hn2
  go_enter Tryz.func114,Tryz.ntmps114
  go_upto_region 1 with fail
  have HB1:=LH (Blk.new w 32 #[.string nm,.string fr,.string tn,.int .i64 kd,.int .i64 ln,.int .i64 up,.int .i64 dn,.string sc,.int .i64 wd,.int .i64 ht,.slice A n c])
  have HW1:Hid (Below w.heap.size w (w.alloc (Obj.cells #[.string nm,.string fr,.string tn,.int .i64 kd,.int .i64 ln,.int .i64 up,.int .i64 dn,.string sc,.int .i64 wd,.int .i64 ht,.slice A n c] 32))):=(bR _ w).alloc (nl _) _
  have HL1:Hid (w.heap.size<(w.alloc (Obj.cells #[.string nm,.string fr,.string tn,.int .i64 kd,.int .i64 ln,.int .i64 up,.int .i64 dn,.string sc,.int .i64 wd,.int .i64 ht,.slice A n c] 32)).heap.size):=HB1.out.lt
  generalize w.alloc (Obj.cells #[.string nm,.string fr,.string tn,.int .i64 kd,.int .i64 ln,.int .i64 up,.int .i64 dn,.string sc,.int .i64 wd,.int .i64 ht,.slice A n c] 32)=w1 at HB1 HW1 HL1⊢
  generalize hgw:w.heap.size=gw at HB1 HL1⊢
  have KS:Hid (∀w',Below w1.heap.size w1 w'→w'.cell? ⟨gw,0,none⟩=some (.string nm)∧w'.cell? ⟨gw,1,none⟩=some (.string fr)∧w'.cell? ⟨gw,2,none⟩=some (.string tn)∧w'.cell? ⟨gw,3,none⟩=some (.int .i64 kd)∧w'.cell? ⟨gw,4,none⟩=some (.int .i64 ln)∧w'.cell? ⟨gw,5,none⟩=some (.int .i64 up)∧w'.cell? ⟨gw,6,none⟩=some (.int .i64 dn)∧w'.cell? ⟨gw,7,none⟩=some (.string sc)∧w'.cell? ⟨gw,8,none⟩=some (.int .i64 wd)∧w'.cell? ⟨gw,9,none⟩=some (.int .i64 ht)∧w'.cell? ⟨gw,10,none⟩=some (.slice A n c)):=fun w' h=>by
   have hb:=HB1.out.call h
   exact ⟨hb.cell 0,hb.cell 1,hb.cell 2,hb.cell 3,hb.cell 4,hb.cell 5,hb.cell 6,hb.cell 7,hb.cell 8,hb.cell 9,hb.cell 10⟩
  refine wp_region_held_drew (S:=(fun w'=>w'.cell? ⟨gw,0,none⟩=some (.string nm)∧w'.cell? ⟨gw,1,none⟩=some (.string fr)∧w'.cell? ⟨gw,2,none⟩=some (.string tn)∧w'.cell? ⟨gw,3,none⟩=some (.int .i64 kd)∧w'.cell? ⟨gw,4,none⟩=some (.int .i64 ln)∧w'.cell? ⟨gw,5,none⟩=some (.int .i64 up)∧w'.cell? ⟨gw,6,none⟩=some (.int .i64 dn)∧w'.cell? ⟨gw,7,none⟩=some (.string sc)∧w'.cell? ⟨gw,8,none⟩=some (.int .i64 wd)∧w'.cell? ⟨gw,9,none⟩=some (.int .i64 ht)∧w'.cell? ⟨gw,10,none⟩=some (.slice A n c))) (by kernel_rfl) ?_ (fun hHeld=>?_)
  ·exact KS.out _ ((bR _ w1).drew)
  refine tkD 0 (some 3) ?_
  refine tkD 1 (some 4) ?_
  refine wpAnyH_ready (rs:=[2]) (by kernel_rfl) (by simp) ?_
  refine AllReadyH.cons rfl (fun K hK=>?_) AllReadyH.nil
  go_simp
  go_at_call 98
  (with_reducible refine (S1.out _).mono ?_)
  rintro e w' ⟨rfl,rfl⟩
  go_wp2_with fail
  refine hK.out _ _ (KS.out _ ((bR _ w1).drew)) (fun hHelda1=>?_)
  clear hK K hHeld
  (try simp only [Act.put,sA,sB,sC])
  refine tkD 3 (some 6) ?_
  refine tkD 4 (some 7) ?_
  refine tkDN 5 (some 8) ?_
  refine tkDN 6 (some 9) ?_
  refine tkDN 7 (some 10) ?_
  refine tkDN 8 (some 11) ?_
  refine tkD 9 (some 12) ?_
  refine tkD 10 (some 13) ?_
  refine tkDN 11 (some 14) ?_
  refine tkDN 12 (some 15) ?_
  refine tkDN 13 (some 16) ?_
  refine tkDN 14 (some 17) ?_
  refine tkD 15 (some 18) ?_
  refine tkD 16 (some 19) ?_
  refine tkDN 17 (some 20) ?_
  refine tkDN 18 (some 21) ?_
  refine tkDN 19 (some 22) ?_
  refine tkDN 20 (some 23) ?_
  refine tkDN 21 (some 24) ?_
  refine tkD 22 (some 25) ?_
  refine tkD 23 (some 26) ?_
  refine tkDN 24 (some 27) ?_
  refine tkDN 25 (some 28) ?_
  refine tkDN 26 (some 29) ?_
  refine tkDN 27 (some 30) ?_
  refine tkDN 28 (some 31) ?_
  refine tkD 29 (some 32) ?_
  refine tkD 30 (some 33) ?_
  refine tkDN 31 (some 34) ?_
  refine tkDN 32 (some 35) ?_
  refine tkDN 33 (some 36) ?_
  refine tkDN 34 (some 37) ?_
  refine tkDN 35 (some 38) ?_
  refine tkD 36 (some 39) ?_
  refine wpAnyH_done (by kernel_rfl) ?_ _
  go_wp2_with fail
  go_ret
  exact ⟨rfl,HW1.out.drew⟩
 rw [g0] at s1
 by_cases g1:zD1 fr.data.toList=true
 case neg=>
  have hVF:V=false:=by rw [hV];exact zA0 fun h=>g1 h.2.1
  have g1':zD1 fr.data.toList=false:=by simpa using g1
  rw [g1'] at s2
  subst hVF
  have S1:=LH s1
  have S2:=LH s2
  have S3:=LH s3
  clear hV g0 g1 g1' s1 s2 s3 s4 sl sm sn sw sv st sp hone hn2
  go_enter Tryz.func114,Tryz.ntmps114
  go_upto_region 1 with fail
  have HB1:=LH (Blk.new w 32 #[.string nm,.string fr,.string tn,.int .i64 kd,.int .i64 ln,.int .i64 up,.int .i64 dn,.string sc,.int .i64 wd,.int .i64 ht,.slice A n c])
  have HW1:Hid (Below w.heap.size w (w.alloc (Obj.cells #[.string nm,.string fr,.string tn,.int .i64 kd,.int .i64 ln,.int .i64 up,.int .i64 dn,.string sc,.int .i64 wd,.int .i64 ht,.slice A n c] 32))):=(bR _ w).alloc (nl _) _
  have HL1:Hid (w.heap.size<(w.alloc (Obj.cells #[.string nm,.string fr,.string tn,.int .i64 kd,.int .i64 ln,.int .i64 up,.int .i64 dn,.string sc,.int .i64 wd,.int .i64 ht,.slice A n c] 32)).heap.size):=HB1.out.lt
  generalize w.alloc (Obj.cells #[.string nm,.string fr,.string tn,.int .i64 kd,.int .i64 ln,.int .i64 up,.int .i64 dn,.string sc,.int .i64 wd,.int .i64 ht,.slice A n c] 32)=w1 at HB1 HW1 HL1⊢
  generalize hgw:w.heap.size=gw at HB1 HL1⊢
  have KS:Hid (∀w',Below w1.heap.size w1 w'→w'.cell? ⟨gw,0,none⟩=some (.string nm)∧w'.cell? ⟨gw,1,none⟩=some (.string fr)∧w'.cell? ⟨gw,2,none⟩=some (.string tn)∧w'.cell? ⟨gw,3,none⟩=some (.int .i64 kd)∧w'.cell? ⟨gw,4,none⟩=some (.int .i64 ln)∧w'.cell? ⟨gw,5,none⟩=some (.int .i64 up)∧w'.cell? ⟨gw,6,none⟩=some (.int .i64 dn)∧w'.cell? ⟨gw,7,none⟩=some (.string sc)∧w'.cell? ⟨gw,8,none⟩=some (.int .i64 wd)∧w'.cell? ⟨gw,9,none⟩=some (.int .i64 ht)∧w'.cell? ⟨gw,10,none⟩=some (.slice A n c)):=fun w' h=>by
   have hb:=HB1.out.call h
   exact ⟨hb.cell 0,hb.cell 1,hb.cell 2,hb.cell 3,hb.cell 4,hb.cell 5,hb.cell 6,hb.cell 7,hb.cell 8,hb.cell 9,hb.cell 10⟩
  refine wp_region_held_drew (S:=(fun w'=>w'.cell? ⟨gw,0,none⟩=some (.string nm)∧w'.cell? ⟨gw,1,none⟩=some (.string fr)∧w'.cell? ⟨gw,2,none⟩=some (.string tn)∧w'.cell? ⟨gw,3,none⟩=some (.int .i64 kd)∧w'.cell? ⟨gw,4,none⟩=some (.int .i64 ln)∧w'.cell? ⟨gw,5,none⟩=some (.int .i64 up)∧w'.cell? ⟨gw,6,none⟩=some (.int .i64 dn)∧w'.cell? ⟨gw,7,none⟩=some (.string sc)∧w'.cell? ⟨gw,8,none⟩=some (.int .i64 wd)∧w'.cell? ⟨gw,9,none⟩=some (.int .i64 ht)∧w'.cell? ⟨gw,10,none⟩=some (.slice A n c))) (by kernel_rfl) ?_ (fun hHeld=>?_)
  ·exact KS.out _ ((bR _ w1).drew)
  refine tkD 0 (some 3) ?_
  refine tkD 1 (some 4) ?_
  refine wpAnyH_ready (rs:=[2]) (by kernel_rfl) (by simp) ?_
  refine AllReadyH.cons rfl (fun K hK=>?_) AllReadyH.nil
  go_simp
  go_at_call 98
  (with_reducible refine (S1.out _).mono ?_)
  rintro e w' ⟨rfl,rfl⟩
  go_wp2_with fail
  refine hK.out _ _ (KS.out _ ((bR _ w1).drew)) (fun hHeldb1=>?_)
  clear hK K hHeld
  (try simp only [Act.put,sA,sB,sC])
  refine tkD 3 (some 6) ?_
  refine tkD 4 (some 7) ?_
  refine tkD 5 (some 8) ?_
  refine tkD 6 (some 9) ?_
  refine wpAnyH_ready (rs:=[7]) (by kernel_rfl) (by simp) ?_
  refine AllReadyH.cons rfl (fun K hK=>?_) AllReadyH.nil
  go_simp
  go_at_call 98
  (with_reducible refine (S2.out _).mono ?_)
  rintro e w' ⟨rfl,rfl⟩
  go_wp2_with fail
  refine hK.out _ _ (KS.out _ ((bR _ w1).drew)) (fun hHeldb2=>?_)
  clear hK K hHeldb1
  (try simp only [Act.put,sA,sB,sC])
  refine tkD 8 (some 11) ?_
  refine tkD 9 (some 12) ?_
  refine tkD 10 (some 13) ?_
  refine tkDN 11 (some 14) ?_
  refine tkDN 12 (some 15) ?_
  refine tkDN 13 (some 16) ?_
  refine tkDN 14 (some 17) ?_
  refine tkD 15 (some 18) ?_
  refine tkD 16 (some 19) ?_
  refine tkDN 17 (some 20) ?_
  refine tkDN 18 (some 21) ?_
  refine tkDN 19 (some 22) ?_
  refine tkDN 20 (some 23) ?_
  refine tkDN 21 (some 24) ?_
  refine tkD 22 (some 25) ?_
  refine tkD 23 (some 26) ?_
  refine tkDN 24 (some 27) ?_
  refine tkDN 25 (some 28) ?_
  refine tkDN 26 (some 29) ?_
  refine tkDN 27 (some 30) ?_
  refine tkDN 28 (some 31) ?_
  refine tkD 29 (some 32) ?_
  refine tkD 30 (some 33) ?_
  refine tkDN 31 (some 34) ?_
  refine tkDN 32 (some 35) ?_
  refine tkDN 33 (some 36) ?_
  refine tkDN 34 (some 37) ?_
  refine tkDN 35 (some 38) ?_
  refine tkD 36 (some 39) ?_
  refine wpAnyH_done (by kernel_rfl) ?_ _
  go_wp2_with fail
  go_ret
  exact ⟨rfl,HW1.out.drew⟩
 rw [g1] at s2
 by_cases g2:zD1 tn.data.toList=true
 case neg=>
  have hVF:V=false:=by rw [hV];exact zA0 fun h=>g2 h.2.2.1
  have g2':zD1 tn.data.toList=false:=by simpa using g2
  rw [g2'] at s3
  subst hVF
  have S1:=LH s1
  have S2:=LH s2
  have S3:=LH s3
  clear hV g0 g1 g2 g2' s1 s2 s3 s4 sl sm sn sw sv st sp hone hn2
  go_enter Tryz.func114,Tryz.ntmps114
  go_upto_region 1 with fail
  have HB1:=LH (Blk.new w 32 #[.string nm,.string fr,.string tn,.int .i64 kd,.int .i64 ln,.int .i64 up,.int .i64 dn,.string sc,.int .i64 wd,.int .i64 ht,.slice A n c])
  have HW1:Hid (Below w.heap.size w (w.alloc (Obj.cells #[.string nm,.string fr,.string tn,.int .i64 kd,.int .i64 ln,.int .i64 up,.int .i64 dn,.string sc,.int .i64 wd,.int .i64 ht,.slice A n c] 32))):=(bR _ w).alloc (nl _) _
  have HL1:Hid (w.heap.size<(w.alloc (Obj.cells #[.string nm,.string fr,.string tn,.int .i64 kd,.int .i64 ln,.int .i64 up,.int .i64 dn,.string sc,.int .i64 wd,.int .i64 ht,.slice A n c] 32)).heap.size):=HB1.out.lt
  generalize w.alloc (Obj.cells #[.string nm,.string fr,.string tn,.int .i64 kd,.int .i64 ln,.int .i64 up,.int .i64 dn,.string sc,.int .i64 wd,.int .i64 ht,.slice A n c] 32)=w1 at HB1 HW1 HL1⊢
  generalize hgw:w.heap.size=gw at HB1 HL1⊢
  have KS:Hid (∀w',Below w1.heap.size w1 w'→w'.cell? ⟨gw,0,none⟩=some (.string nm)∧w'.cell? ⟨gw,1,none⟩=some (.string fr)∧w'.cell? ⟨gw,2,none⟩=some (.string tn)∧w'.cell? ⟨gw,3,none⟩=some (.int .i64 kd)∧w'.cell? ⟨gw,4,none⟩=some (.int .i64 ln)∧w'.cell? ⟨gw,5,none⟩=some (.int .i64 up)∧w'.cell? ⟨gw,6,none⟩=some (.int .i64 dn)∧w'.cell? ⟨gw,7,none⟩=some (.string sc)∧w'.cell? ⟨gw,8,none⟩=some (.int .i64 wd)∧w'.cell? ⟨gw,9,none⟩=some (.int .i64 ht)∧w'.cell? ⟨gw,10,none⟩=some (.slice A n c)):=fun w' h=>by
   have hb:=HB1.out.call h
   exact ⟨hb.cell 0,hb.cell 1,hb.cell 2,hb.cell 3,hb.cell 4,hb.cell 5,hb.cell 6,hb.cell 7,hb.cell 8,hb.cell 9,hb.cell 10⟩
  refine wp_region_held_drew (S:=(fun w'=>w'.cell? ⟨gw,0,none⟩=some (.string nm)∧w'.cell? ⟨gw,1,none⟩=some (.string fr)∧w'.cell? ⟨gw,2,none⟩=some (.string tn)∧w'.cell? ⟨gw,3,none⟩=some (.int .i64 kd)∧w'.cell? ⟨gw,4,none⟩=some (.int .i64 ln)∧w'.cell? ⟨gw,5,none⟩=some (.int .i64 up)∧w'.cell? ⟨gw,6,none⟩=some (.int .i64 dn)∧w'.cell? ⟨gw,7,none⟩=some (.string sc)∧w'.cell? ⟨gw,8,none⟩=some (.int .i64 wd)∧w'.cell? ⟨gw,9,none⟩=some (.int .i64 ht)∧w'.cell? ⟨gw,10,none⟩=some (.slice A n c))) (by kernel_rfl) ?_ (fun hHeld=>?_)
  ·exact KS.out _ ((bR _ w1).drew)
  refine tkD 0 (some 3) ?_
  refine tkD 1 (some 4) ?_
  refine wpAnyH_ready (rs:=[2]) (by kernel_rfl) (by simp) ?_
  refine AllReadyH.cons rfl (fun K hK=>?_) AllReadyH.nil
  go_simp
  go_at_call 98
  (with_reducible refine (S1.out _).mono ?_)
  rintro e w' ⟨rfl,rfl⟩
  go_wp2_with fail
  refine hK.out _ _ (KS.out _ ((bR _ w1).drew)) (fun hHeldc1=>?_)
  clear hK K hHeld
  (try simp only [Act.put,sA,sB,sC])
  refine tkD 3 (some 6) ?_
  refine tkD 4 (some 7) ?_
  refine tkD 5 (some 8) ?_
  refine tkD 6 (some 9) ?_
  refine wpAnyH_ready (rs:=[7]) (by kernel_rfl) (by simp) ?_
  refine AllReadyH.cons rfl (fun K hK=>?_) AllReadyH.nil
  go_simp
  go_at_call 98
  (with_reducible refine (S2.out _).mono ?_)
  rintro e w' ⟨rfl,rfl⟩
  go_wp2_with fail
  refine hK.out _ _ (KS.out _ ((bR _ w1).drew)) (fun hHeldc2=>?_)
  clear hK K hHeldc1
  (try simp only [Act.put,sA,sB,sC])
  refine tkD 8 (some 11) ?_
  refine tkD 9 (some 12) ?_
  refine tkD 10 (some 13) ?_
  refine tkD 11 (some 14) ?_
  refine tkD 12 (some 15) ?_
  refine wpAnyH_ready (rs:=[13]) (by kernel_rfl) (by simp) ?_
  refine AllReadyH.cons rfl (fun K hK=>?_) AllReadyH.nil
  go_simp
  go_at_call 98
  (with_reducible refine (S3.out _).mono ?_)
  rintro e w' ⟨rfl,rfl⟩
  go_wp2_with fail
  refine hK.out _ _ (KS.out _ ((bR _ w1).drew)) (fun hHeldc3=>?_)
  clear hK K hHeldc2
  (try simp only [Act.put,sA,sB,sC])
  refine tkD 14 (some 17) ?_
  refine tkD 15 (some 18) ?_
  refine tkD 16 (some 19) ?_
  refine tkDN 17 (some 20) ?_
  refine tkDN 18 (some 21) ?_
  refine tkDN 19 (some 22) ?_
  refine tkDN 20 (some 23) ?_
  refine tkDN 21 (some 24) ?_
  refine tkD 22 (some 25) ?_
  refine tkD 23 (some 26) ?_
  refine tkDN 24 (some 27) ?_
  refine tkDN 25 (some 28) ?_
  refine tkDN 26 (some 29) ?_
  refine tkDN 27 (some 30) ?_
  refine tkDN 28 (some 31) ?_
  refine tkD 29 (some 32) ?_
  refine tkD 30 (some 33) ?_
  refine tkDN 31 (some 34) ?_
  refine tkDN 32 (some 35) ?_
  refine tkDN 33 (some 36) ?_
  refine tkDN 34 (some 37) ?_
  refine tkDN 35 (some 38) ?_
  refine tkD 36 (some 39) ?_
  refine wpAnyH_done (by kernel_rfl) ?_ _
  go_wp2_with fail
  go_ret
  exact ⟨rfl,HW1.out.drew⟩
 rw [g2] at s3
 by_cases g3:fr≠tn
 case neg=>
  have hVF:V=false:=by rw [hV];exact zA0 fun h=>g3 h.2.2.2.1
  obtain rfl:fr=tn:=Classical.byContradiction fun h=>g3 h
  subst hVF
  have S1:=LH s1
  have S2:=LH s2
  have S3:=LH s3
  clear hV g0 g1 g2 g3 s1 s2 s3 s4 sl sm sn sw sv st sp hone hn2
  go_enter Tryz.func114,Tryz.ntmps114
  go_upto_region 1 with fail
  have HB1:=LH (Blk.new w 32 #[.string nm,.string fr,.string fr,.int .i64 kd,.int .i64 ln,.int .i64 up,.int .i64 dn,.string sc,.int .i64 wd,.int .i64 ht,.slice A n c])
  have HW1:Hid (Below w.heap.size w (w.alloc (Obj.cells #[.string nm,.string fr,.string fr,.int .i64 kd,.int .i64 ln,.int .i64 up,.int .i64 dn,.string sc,.int .i64 wd,.int .i64 ht,.slice A n c] 32))):=(bR _ w).alloc (nl _) _
  have HL1:Hid (w.heap.size<(w.alloc (Obj.cells #[.string nm,.string fr,.string fr,.int .i64 kd,.int .i64 ln,.int .i64 up,.int .i64 dn,.string sc,.int .i64 wd,.int .i64 ht,.slice A n c] 32)).heap.size):=HB1.out.lt
  generalize w.alloc (Obj.cells #[.string nm,.string fr,.string fr,.int .i64 kd,.int .i64 ln,.int .i64 up,.int .i64 dn,.string sc,.int .i64 wd,.int .i64 ht,.slice A n c] 32)=w1 at HB1 HW1 HL1⊢
  generalize hgw:w.heap.size=gw at HB1 HL1⊢
  have KS:Hid (∀w',Below w1.heap.size w1 w'→w'.cell? ⟨gw,0,none⟩=some (.string nm)∧w'.cell? ⟨gw,1,none⟩=some (.string fr)∧w'.cell? ⟨gw,2,none⟩=some (.string fr)∧w'.cell? ⟨gw,3,none⟩=some (.int .i64 kd)∧w'.cell? ⟨gw,4,none⟩=some (.int .i64 ln)∧w'.cell? ⟨gw,5,none⟩=some (.int .i64 up)∧w'.cell? ⟨gw,6,none⟩=some (.int .i64 dn)∧w'.cell? ⟨gw,7,none⟩=some (.string sc)∧w'.cell? ⟨gw,8,none⟩=some (.int .i64 wd)∧w'.cell? ⟨gw,9,none⟩=some (.int .i64 ht)∧w'.cell? ⟨gw,10,none⟩=some (.slice A n c)):=fun w' h=>by
   have hb:=HB1.out.call h
   exact ⟨hb.cell 0,hb.cell 1,hb.cell 2,hb.cell 3,hb.cell 4,hb.cell 5,hb.cell 6,hb.cell 7,hb.cell 8,hb.cell 9,hb.cell 10⟩
  refine wp_region_held_drew (S:=(fun w'=>w'.cell? ⟨gw,0,none⟩=some (.string nm)∧w'.cell? ⟨gw,1,none⟩=some (.string fr)∧w'.cell? ⟨gw,2,none⟩=some (.string fr)∧w'.cell? ⟨gw,3,none⟩=some (.int .i64 kd)∧w'.cell? ⟨gw,4,none⟩=some (.int .i64 ln)∧w'.cell? ⟨gw,5,none⟩=some (.int .i64 up)∧w'.cell? ⟨gw,6,none⟩=some (.int .i64 dn)∧w'.cell? ⟨gw,7,none⟩=some (.string sc)∧w'.cell? ⟨gw,8,none⟩=some (.int .i64 wd)∧w'.cell? ⟨gw,9,none⟩=some (.int .i64 ht)∧w'.cell? ⟨gw,10,none⟩=some (.slice A n c))) (by kernel_rfl) ?_ (fun hHeld=>?_)
  ·exact KS.out _ ((bR _ w1).drew)
  refine tkD 0 (some 3) ?_
  refine tkD 1 (some 4) ?_
  refine wpAnyH_ready (rs:=[2]) (by kernel_rfl) (by simp) ?_
  refine AllReadyH.cons rfl (fun K hK=>?_) AllReadyH.nil
  go_simp
  go_at_call 98
  (with_reducible refine (S1.out _).mono ?_)
  rintro e w' ⟨rfl,rfl⟩
  go_wp2_with fail
  refine hK.out _ _ (KS.out _ ((bR _ w1).drew)) (fun hHeldd1=>?_)
  clear hK K hHeld
  (try simp only [Act.put,sA,sB,sC])
  refine tkD 3 (some 6) ?_
  refine tkD 4 (some 7) ?_
  refine tkD 5 (some 8) ?_
  refine tkD 6 (some 9) ?_
  refine wpAnyH_ready (rs:=[7]) (by kernel_rfl) (by simp) ?_
  refine AllReadyH.cons rfl (fun K hK=>?_) AllReadyH.nil
  go_simp
  go_at_call 98
  (with_reducible refine (S2.out _).mono ?_)
  rintro e w' ⟨rfl,rfl⟩
  go_wp2_with fail
  refine hK.out _ _ (KS.out _ ((bR _ w1).drew)) (fun hHeldd2=>?_)
  clear hK K hHeldd1
  (try simp only [Act.put,sA,sB,sC])
  refine tkD 8 (some 11) ?_
  refine tkD 9 (some 12) ?_
  refine tkD 10 (some 13) ?_
  refine tkD 11 (some 14) ?_
  refine tkD 12 (some 15) ?_
  refine wpAnyH_ready (rs:=[13]) (by kernel_rfl) (by simp) ?_
  refine AllReadyH.cons rfl (fun K hK=>?_) AllReadyH.nil
  go_simp
  go_at_call 98
  (with_reducible refine (S3.out _).mono ?_)
  rintro e w' ⟨rfl,rfl⟩
  go_wp2_with fail
  refine hK.out _ _ (KS.out _ ((bR _ w1).drew)) (fun hHeldd3=>?_)
  clear hK K hHeldd2
  (try simp only [Act.put,sA,sB,sC])
  refine tkD 14 (some 17) ?_
  refine tkD 15 (some 18) ?_
  refine tkD 16 (some 19) ?_
  refine tkD 17 (some 20) ?_
  refine tkD 18 (some 21) ?_
  refine tkD 19 (some 22) ?_
  refine tkD 20 (some 23) ?_
  refine tkD 21 (some 24) ?_
  refine tkD 22 (some 25) ?_
  refine tkD 23 (some 26) ?_
  refine tkDN 24 (some 27) ?_
  refine tkDN 25 (some 28) ?_
  refine tkDN 26 (some 29) ?_
  refine tkDN 27 (some 30) ?_
  refine tkDN 28 (some 31) ?_
  refine tkD 29 (some 32) ?_
  refine tkD 30 (some 33) ?_
  refine tkDN 31 (some 34) ?_
  refine tkDN 32 (some 35) ?_
  refine tkDN 33 (some 36) ?_
  refine tkDN 34 (some 37) ?_
  refine tkDN 35 (some 38) ?_
  refine tkD 36 (some 39) ?_
  refine wpAnyH_done (by kernel_rfl) ?_ _
  go_wp2_with fail
  go_ret
  exact ⟨rfl,HW1.out.drew⟩
 have t3:¬fr.toList=tn.toList:=fun h=>g3 (zC1 h)
 have u3:(fr.toList==tn.toList)=false:=by simp [t3]
 by_cases g4:lvP up
 case neg=>
  have hVF:V=false:=by rw [hV];exact zA0 fun h=>g4 h.2.2.2.2.1
  subst hVF
  have S1:=LH s1
  have S2:=LH s2
  have S3:=LH s3
  have SL:=LH (sl false ⟨fun h=>(by cases h),fun h=>absurd ((hone up).1 h) g4⟩)
  clear hV g0 g1 g2 g3 g4 s1 s2 s3 s4 sl sm sn sw sv st sp hone hn2
  go_enter Tryz.func114,Tryz.ntmps114
  go_upto_region 1 with fail
  have HB1:=LH (Blk.new w 32 #[.string nm,.string fr,.string tn,.int .i64 kd,.int .i64 ln,.int .i64 up,.int .i64 dn,.string sc,.int .i64 wd,.int .i64 ht,.slice A n c])
  have HW1:Hid (Below w.heap.size w (w.alloc (Obj.cells #[.string nm,.string fr,.string tn,.int .i64 kd,.int .i64 ln,.int .i64 up,.int .i64 dn,.string sc,.int .i64 wd,.int .i64 ht,.slice A n c] 32))):=(bR _ w).alloc (nl _) _
  have HL1:Hid (w.heap.size<(w.alloc (Obj.cells #[.string nm,.string fr,.string tn,.int .i64 kd,.int .i64 ln,.int .i64 up,.int .i64 dn,.string sc,.int .i64 wd,.int .i64 ht,.slice A n c] 32)).heap.size):=HB1.out.lt
  generalize w.alloc (Obj.cells #[.string nm,.string fr,.string tn,.int .i64 kd,.int .i64 ln,.int .i64 up,.int .i64 dn,.string sc,.int .i64 wd,.int .i64 ht,.slice A n c] 32)=w1 at HB1 HW1 HL1⊢
  generalize hgw:w.heap.size=gw at HB1 HL1⊢
  have KS:Hid (∀w',Below w1.heap.size w1 w'→w'.cell? ⟨gw,0,none⟩=some (.string nm)∧w'.cell? ⟨gw,1,none⟩=some (.string fr)∧w'.cell? ⟨gw,2,none⟩=some (.string tn)∧w'.cell? ⟨gw,3,none⟩=some (.int .i64 kd)∧w'.cell? ⟨gw,4,none⟩=some (.int .i64 ln)∧w'.cell? ⟨gw,5,none⟩=some (.int .i64 up)∧w'.cell? ⟨gw,6,none⟩=some (.int .i64 dn)∧w'.cell? ⟨gw,7,none⟩=some (.string sc)∧w'.cell? ⟨gw,8,none⟩=some (.int .i64 wd)∧w'.cell? ⟨gw,9,none⟩=some (.int .i64 ht)∧w'.cell? ⟨gw,10,none⟩=some (.slice A n c)):=fun w' h=>by
   have hb:=HB1.out.call h
   exact ⟨hb.cell 0,hb.cell 1,hb.cell 2,hb.cell 3,hb.cell 4,hb.cell 5,hb.cell 6,hb.cell 7,hb.cell 8,hb.cell 9,hb.cell 10⟩
  refine wp_region_held_drew (S:=(fun w'=>w'.cell? ⟨gw,0,none⟩=some (.string nm)∧w'.cell? ⟨gw,1,none⟩=some (.string fr)∧w'.cell? ⟨gw,2,none⟩=some (.string tn)∧w'.cell? ⟨gw,3,none⟩=some (.int .i64 kd)∧w'.cell? ⟨gw,4,none⟩=some (.int .i64 ln)∧w'.cell? ⟨gw,5,none⟩=some (.int .i64 up)∧w'.cell? ⟨gw,6,none⟩=some (.int .i64 dn)∧w'.cell? ⟨gw,7,none⟩=some (.string sc)∧w'.cell? ⟨gw,8,none⟩=some (.int .i64 wd)∧w'.cell? ⟨gw,9,none⟩=some (.int .i64 ht)∧w'.cell? ⟨gw,10,none⟩=some (.slice A n c))) (by kernel_rfl) ?_ (fun hHeld=>?_)
  ·exact KS.out _ ((bR _ w1).drew)
  refine tkD 0 (some 3) ?_
  refine tkD 1 (some 4) ?_
  refine wpAnyH_ready (rs:=[2]) (by kernel_rfl) (by simp) ?_
  refine AllReadyH.cons rfl (fun K hK=>?_) AllReadyH.nil
  go_simp
  go_at_call 98
  (with_reducible refine (S1.out _).mono ?_)
  rintro e w' ⟨rfl,rfl⟩
  go_wp2_with fail
  refine hK.out _ _ (KS.out _ ((bR _ w1).drew)) (fun hHelde1=>?_)
  clear hK K hHeld
  (try simp only [Act.put,sA,sB,sC])
  refine tkD 3 (some 6) ?_
  refine tkD 4 (some 7) ?_
  refine tkD 5 (some 8) ?_
  refine tkD 6 (some 9) ?_
  refine wpAnyH_ready (rs:=[7]) (by kernel_rfl) (by simp) ?_
  refine AllReadyH.cons rfl (fun K hK=>?_) AllReadyH.nil
  go_simp
  go_at_call 98
  (with_reducible refine (S2.out _).mono ?_)
  rintro e w' ⟨rfl,rfl⟩
  go_wp2_with fail
  refine hK.out _ _ (KS.out _ ((bR _ w1).drew)) (fun hHelde2=>?_)
  clear hK K hHelde1
  (try simp only [Act.put,sA,sB,sC])
  refine tkD 8 (some 11) ?_
  refine tkD 9 (some 12) ?_
  refine tkD 10 (some 13) ?_
  refine tkD 11 (some 14) ?_
  refine tkD 12 (some 15) ?_
  refine wpAnyH_ready (rs:=[13]) (by kernel_rfl) (by simp) ?_
  refine AllReadyH.cons rfl (fun K hK=>?_) AllReadyH.nil
  go_simp
  go_at_call 98
  (with_reducible refine (S3.out _).mono ?_)
  rintro e w' ⟨rfl,rfl⟩
  go_wp2_with fail
  refine hK.out _ _ (KS.out _ ((bR _ w1).drew)) (fun hHelde3=>?_)
  clear hK K hHelde2
  (try simp only [Act.put,sA,sB,sC])
  refine tkD 14 (some 17) ?_
  refine tkD 15 (some 18) ?_
  refine tkD 16 (some 19) ?_
  refine tkD 17 (some 20) ?_
  refine tkD 18 (some 21) ?_
  refine tkD 19 (some 22) ?_
  refine tkD 20 (some 23) ?_
  refine tkD 21 (some 24) ?_
  refine tkD 22 (some 25) ?_
  refine tkD 23 (some 26) ?_
  refine tkD 24 (some 27) ?_
  refine tkD 25 (some 28) ?_
  refine wpAnyH_ready (rs:=[26]) (by kernel_rfl) (by simp) ?_
  refine AllReadyH.cons rfl (fun K hK=>?_) AllReadyH.nil
  go_simp
  refine hK.out _ _ (KS.out _ (((bR _ w1).alloc (nl _) _).drew)) (fun hHelde4=>?_)
  clear hK K hHelde3
  (try simp only [Act.put,sA,sB,sC])
  refine wpAnyH_ready (rs:=[27]) (by kernel_rfl) (by simp) ?_
  refine AllReadyH.cons rfl (fun K hK=>?_) AllReadyH.nil
  go_simp
  go_at_call 153
  with_reducible refine (SL.out _ _ _ ?_).mono ?_
  focus (exact zD9 (Blk.new _ _ _))
  rintro e w2 ⟨rfl,hb2⟩
  have hq2:Below w1.heap.size w1 w2:=((bR _ w1).drew).trans (((bR _ w1.drew).alloc (nl _) _).trans (hb2.mono (by simp)))
  clear hb2
  go_wp2_with fail
  refine hK.out _ _ (KS.out _ hq2) (fun hHelde5=>?_)
  clear hK K hHelde4
  (try simp only [Act.put,sA,sB,sC])
  refine tkD 28 (some 31) ?_
  refine tkD 29 (some 32) ?_
  refine tkD 30 (some 33) ?_
  refine tkDN 31 (some 34) ?_
  refine tkDN 32 (some 35) ?_
  refine tkDN 33 (some 36) ?_
  refine tkDN 34 (some 37) ?_
  refine tkDN 35 (some 38) ?_
  refine tkD 36 (some 39) ?_
  refine wpAnyH_done (by kernel_rfl) ?_ _
  go_wp2_with fail
  go_ret
  exact ⟨rfl,zB8 HW1.out hq2⟩
 have SL:=LH (sl true ⟨fun _=>(hone up).2 g4,fun _=>rfl⟩)
 have hg:zR7 nm fr tn kd ln up dn sc wd ht n X Y↔(lvP dn∧((kd=1∧(1≤ln∧ln≤16777216)∧zD1 sc.data.toList=true∧wd=0∧ht=0∧n=0)∨
  (kd=2∧ln=0∧dn=0∧sc.size=0∧(1≤wd∧wd≤1048576)∧ht=0∧n=0)∨
  (kd=3∧ln=0∧dn=0∧sc.size=0∧(1≤wd∧wd≤32768)∧(1≤ht∧ht≤32768)∧n=0)∨
  (kd=4∧ln=0∧dn<up∧sc.size=0∧wd=0∧ht=0∧zT3 n X Y))):=by
  unfold zR7
  exact ⟨fun h=>h.2.2.2.2.2,fun h=>⟨g0,g1,g2,g3,g4,h⟩⟩
 have hz:∀s:ByteArray,s.size=0→s=⟨#[]⟩:=fun s h=>zR8 h
 have h0:(⟨#[]⟩:ByteArray).size=0:=rfl
 clear g0 g1 g2 g3 g4 sl
 by_cases k1:kd=1
 case pos=>
  subst k1
  have spl:=fun w=>nplain1 nm fr tn ln up dn sc wd ht A n c w
  have SP:=LH spl
  have HTP:Hid (∀w',Below w.heap.size w w'→TabIn w' none 0 (fun _=>0) (fun _=>0)):=fun w' h=>⟨by omega,.inl rfl⟩
  have ss:=fun w hA hB=>nsame nm fr tn 1 ln up dn sc wd ht A n c X Y nm fr tn 1 ln up dn sc 0 0 none 0 0 (fun _=>0) (fun _=>0) w hA hB
  by_cases ge:lkEq nm fr tn 1 ln up dn sc wd ht n X Y nm fr tn 1 ln up dn sc 0 0 0 (fun _=>0) (fun _=>0)
  case neg=>
   have hVF:V=false:=by rw [hV];exact zA0 fun h=>(by rcases (hg.1 h).2 with h |h |h |h;exact ge ⟨rfl,rfl,rfl,rfl,rfl,rfl,rfl,rfl,h.2.2.2.1,h.2.2.2.2.1,h.2.2.2.2.2,fun j hj=>by omega⟩;exact absurd h.1 (by omega);exact absurd h.1 (by omega);exact absurd h.1 (by omega))
   rw [zA0 ge] at ss
   subst hVF
   have S1:=LH s1
   have S2:=LH s2
   have S3:=LH s3
   have SS:=LH ss
   clear ge hV hg hz h0 hone hn2 s1 s2 s3 s4 sm sn sw sv st sp ss spl
   go_enter Tryz.func114,Tryz.ntmps114
   go_upto_region 1 with fail
   have HB1:=LH (Blk.new w 32 #[.string nm,.string fr,.string tn,.int .i64 1,.int .i64 ln,.int .i64 up,.int .i64 dn,.string sc,.int .i64 wd,.int .i64 ht,.slice A n c])
   have HW1:Hid (Below w.heap.size w (w.alloc (Obj.cells #[.string nm,.string fr,.string tn,.int .i64 1,.int .i64 ln,.int .i64 up,.int .i64 dn,.string sc,.int .i64 wd,.int .i64 ht,.slice A n c] 32))):=(bR _ w).alloc (nl _) _
   have HL1:Hid (w.heap.size<(w.alloc (Obj.cells #[.string nm,.string fr,.string tn,.int .i64 1,.int .i64 ln,.int .i64 up,.int .i64 dn,.string sc,.int .i64 wd,.int .i64 ht,.slice A n c] 32)).heap.size):=HB1.out.lt
   generalize w.alloc (Obj.cells #[.string nm,.string fr,.string tn,.int .i64 1,.int .i64 ln,.int .i64 up,.int .i64 dn,.string sc,.int .i64 wd,.int .i64 ht,.slice A n c] 32)=w1 at HB1 HW1 HL1⊢
   generalize hgw:w.heap.size=gw at HB1 HL1⊢
   have KS:Hid (∀w',Below w1.heap.size w1 w'→w'.cell? ⟨gw,0,none⟩=some (.string nm)∧w'.cell? ⟨gw,1,none⟩=some (.string fr)∧w'.cell? ⟨gw,2,none⟩=some (.string tn)∧w'.cell? ⟨gw,3,none⟩=some (.int .i64 1)∧w'.cell? ⟨gw,4,none⟩=some (.int .i64 ln)∧w'.cell? ⟨gw,5,none⟩=some (.int .i64 up)∧w'.cell? ⟨gw,6,none⟩=some (.int .i64 dn)∧w'.cell? ⟨gw,7,none⟩=some (.string sc)∧w'.cell? ⟨gw,8,none⟩=some (.int .i64 wd)∧w'.cell? ⟨gw,9,none⟩=some (.int .i64 ht)∧w'.cell? ⟨gw,10,none⟩=some (.slice A n c)):=fun w' h=>by
        have hb:=HB1.out.call h
        exact ⟨hb.cell 0,hb.cell 1,hb.cell 2,hb.cell 3,hb.cell 4,hb.cell 5,hb.cell 6,hb.cell 7,hb.cell 8,hb.cell 9,hb.cell 10⟩
   refine wp_region_held_drew (S:=(fun w'=>w'.cell? ⟨gw,0,none⟩=some (.string nm)∧w'.cell? ⟨gw,1,none⟩=some (.string fr)∧w'.cell? ⟨gw,2,none⟩=some (.string tn)∧w'.cell? ⟨gw,3,none⟩=some (.int .i64 1)∧w'.cell? ⟨gw,4,none⟩=some (.int .i64 ln)∧w'.cell? ⟨gw,5,none⟩=some (.int .i64 up)∧w'.cell? ⟨gw,6,none⟩=some (.int .i64 dn)∧w'.cell? ⟨gw,7,none⟩=some (.string sc)∧w'.cell? ⟨gw,8,none⟩=some (.int .i64 wd)∧w'.cell? ⟨gw,9,none⟩=some (.int .i64 ht)∧w'.cell? ⟨gw,10,none⟩=some (.slice A n c))) (by kernel_rfl) ?_ (fun hHeld=>?_)
   ·exact KS.out _ ((bR _ w1).drew)
   refine tkD 0 (some 3) ?_
   refine tkD 1 (some 4) ?_
   refine wpAnyH_ready (rs:=[2]) (by kernel_rfl) (by simp) ?_
   refine AllReadyH.cons rfl (fun K hK=>?_) AllReadyH.nil
   go_simp
   go_at_call 98
   (with_reducible refine (S1.out _).mono ?_)
   rintro e w' ⟨rfl,rfl⟩
   go_wp2_with fail
   refine hK.out _ _ (KS.out _ ((bR _ w1).drew)) (fun hHeldf1=>?_)
   clear hK K hHeld
   (try simp only [Act.put,sA,sB,sC])
   refine tkD 3 (some 6) ?_
   refine tkD 4 (some 7) ?_
   refine tkD 5 (some 8) ?_
   refine tkD 6 (some 9) ?_
   refine wpAnyH_ready (rs:=[7]) (by kernel_rfl) (by simp) ?_
   refine AllReadyH.cons rfl (fun K hK=>?_) AllReadyH.nil
   go_simp
   go_at_call 98
   (with_reducible refine (S2.out _).mono ?_)
   rintro e w' ⟨rfl,rfl⟩
   go_wp2_with fail
   refine hK.out _ _ (KS.out _ ((bR _ w1).drew)) (fun hHeldf2=>?_)
   clear hK K hHeldf1
   (try simp only [Act.put,sA,sB,sC])
   refine tkD 8 (some 11) ?_
   refine tkD 9 (some 12) ?_
   refine tkD 10 (some 13) ?_
   refine tkD 11 (some 14) ?_
   refine tkD 12 (some 15) ?_
   refine wpAnyH_ready (rs:=[13]) (by kernel_rfl) (by simp) ?_
   refine AllReadyH.cons rfl (fun K hK=>?_) AllReadyH.nil
   go_simp
   go_at_call 98
   (with_reducible refine (S3.out _).mono ?_)
   rintro e w' ⟨rfl,rfl⟩
   go_wp2_with fail
   refine hK.out _ _ (KS.out _ ((bR _ w1).drew)) (fun hHeldf3=>?_)
   clear hK K hHeldf2
   (try simp only [Act.put,sA,sB,sC])
   refine tkD 14 (some 17) ?_
   refine tkD 15 (some 18) ?_
   refine tkD 16 (some 19) ?_
   refine tkD 17 (some 20) ?_
   refine tkD 18 (some 21) ?_
   refine tkD 19 (some 22) ?_
   refine tkD 20 (some 23) ?_
   refine tkD 21 (some 24) ?_
   refine tkD 22 (some 25) ?_
   refine tkD 23 (some 26) ?_
   refine tkD 24 (some 27) ?_
   refine tkD 25 (some 28) ?_
   refine wpAnyH_ready (rs:=[26]) (by kernel_rfl) (by simp) ?_
   refine AllReadyH.cons rfl (fun K hK=>?_) AllReadyH.nil
   go_simp
   refine hK.out _ _ (KS.out _ (((bR _ w1).alloc (nl _) _).drew)) (fun hHeldf4=>?_)
   clear hK K hHeldf3
   (try simp only [Act.put,sA,sB,sC])
   refine wpAnyH_ready (rs:=[27]) (by kernel_rfl) (by simp) ?_
   refine AllReadyH.cons rfl (fun K hK=>?_) AllReadyH.nil
   go_simp
   go_at_call 153
   with_reducible refine (SL.out _ _ _ ?_).mono ?_
   focus (exact zD9 (Blk.new _ _ _))
   rintro e w2 ⟨rfl,hb2⟩
   have hq2:Below w1.heap.size w1 w2:=((bR _ w1).drew).trans (((bR _ w1.drew).alloc (nl _) _).trans (hb2.mono (by simp)))
   clear hb2
   go_wp2_with fail
   refine hK.out _ _ (KS.out _ hq2) (fun hHeldf5=>?_)
   clear hK K hHeldf4
   (try simp only [Act.put,sA,sB,sC])
   refine tkD 28 (some 31) ?_
   refine tkD 29 (some 32) ?_
   refine tkD 30 (some 33) ?_
   refine tkD 31 (some 34) ?_
   refine tkD 32 (some 35) ?_
   refine wpAnyH_ready (rs:=[33]) (by kernel_rfl) (by simp) ?_
   refine AllReadyH.cons rfl (fun K hK=>?_) AllReadyH.nil
   go_simp
   go_at_call 157
   with_reducible refine (SP.out _).mono ?_
   rintro e w3 ⟨rfl,hb3⟩
   have hq3:Below w1.heap.size w1 w3:=hq2.trans (hb3.mono hq2.size)
   clear hb3
   go_wp2_with fail
   refine hK.out _ _ (KS.out _ hq3) (fun hHeldf6=>?_)
   clear hK K hHeldf5
   (try simp only [Act.put,sA,sB,sC])
   refine wpAnyH_ready (rs:=[34]) (by kernel_rfl) (by simp) ?_
   refine AllReadyH.cons rfl (fun K hK=>?_) AllReadyH.nil
   go_simp
   go_at_call 156
   with_reducible refine (SS.out _ ?_ ?_).mono ?_
   focus (exact HT.out.below (nl _) (HW1.out.trans (hq3.mono HW1.out.size)))
   focus (exact HTP.out _ (HW1.out.trans (hq3.mono HW1.out.size)))
   rintro e w4 ⟨rfl,hb4⟩
   have hq4:Below w1.heap.size w1 w4:=hq3.trans (hb4.mono hq3.size)
   clear hb4
   go_wp2_with fail
   refine hK.out _ _ (KS.out _ hq4) (fun hHeldf7=>?_)
   clear hK K hHeldf6
   (try simp only [Act.put,sA,sB,sC])
   refine tkD 35 (some 38) ?_
   refine tkD 36 (some 39) ?_
   refine wpAnyH_done (by kernel_rfl) ?_ _
   go_wp2_with fail
   go_ret
   exact ⟨rfl,zB8 HW1.out hq4⟩
  rw [zA2 ge] at ss
  obtain ⟨_,_,_,_,_,_,_,_,e1,e2,e3⟩:=ge
  subst e1
  subst e2
  obtain rfl:=e3.1
  clear e3
  have SS:=LH ss
  have S1:=LH s1
  have S2:=LH s2
  have S3:=LH s3
  have HG:=LH hg
  have HVV:=LH hV
  have SN0:=LH sn
  have SM0:=LH sm
  have SW0:=LH sw
  have SV0:=LH sv
  have ST0:=LH st
  have SB0:=LH sp
  have S40:=LH s4
  have HONE:=LH hone
  clear hV hg hz h0 hone hn2 s1 s2 s3 s4 sm sn sw sv st sp ss spl
  go_enter Tryz.func114,Tryz.ntmps114
  go_upto_region 1 with fail
  have HB1:=LH (Blk.new w 32 #[.string nm,.string fr,.string tn,.int .i64 1,.int .i64 ln,.int .i64 up,.int .i64 dn,.string sc,.int .i64 0,.int .i64 0,.slice A 0 c])
  have HW1:Hid (Below w.heap.size w (w.alloc (Obj.cells #[.string nm,.string fr,.string tn,.int .i64 1,.int .i64 ln,.int .i64 up,.int .i64 dn,.string sc,.int .i64 0,.int .i64 0,.slice A 0 c] 32))):=(bR _ w).alloc (nl _) _
  have HL1:Hid (w.heap.size<(w.alloc (Obj.cells #[.string nm,.string fr,.string tn,.int .i64 1,.int .i64 ln,.int .i64 up,.int .i64 dn,.string sc,.int .i64 0,.int .i64 0,.slice A 0 c] 32)).heap.size):=HB1.out.lt
  generalize w.alloc (Obj.cells #[.string nm,.string fr,.string tn,.int .i64 1,.int .i64 ln,.int .i64 up,.int .i64 dn,.string sc,.int .i64 0,.int .i64 0,.slice A 0 c] 32)=w1 at HB1 HW1 HL1⊢
  generalize hgw:w.heap.size=gw at HB1 HL1⊢
  have KS:Hid (∀w',Below w1.heap.size w1 w'→w'.cell? ⟨gw,0,none⟩=some (.string nm)∧w'.cell? ⟨gw,1,none⟩=some (.string fr)∧w'.cell? ⟨gw,2,none⟩=some (.string tn)∧w'.cell? ⟨gw,3,none⟩=some (.int .i64 1)∧w'.cell? ⟨gw,4,none⟩=some (.int .i64 ln)∧w'.cell? ⟨gw,5,none⟩=some (.int .i64 up)∧w'.cell? ⟨gw,6,none⟩=some (.int .i64 dn)∧w'.cell? ⟨gw,7,none⟩=some (.string sc)∧w'.cell? ⟨gw,8,none⟩=some (.int .i64 0)∧w'.cell? ⟨gw,9,none⟩=some (.int .i64 0)∧w'.cell? ⟨gw,10,none⟩=some (.slice A 0 c)):=fun w' h=>by
   have hb:=HB1.out.call h
   exact ⟨hb.cell 0,hb.cell 1,hb.cell 2,hb.cell 3,hb.cell 4,hb.cell 5,hb.cell 6,hb.cell 7,hb.cell 8,hb.cell 9,hb.cell 10⟩
  refine wp_region_held_drew (S:=(fun w'=>w'.cell? ⟨gw,0,none⟩=some (.string nm)∧w'.cell? ⟨gw,1,none⟩=some (.string fr)∧w'.cell? ⟨gw,2,none⟩=some (.string tn)∧w'.cell? ⟨gw,3,none⟩=some (.int .i64 1)∧w'.cell? ⟨gw,4,none⟩=some (.int .i64 ln)∧w'.cell? ⟨gw,5,none⟩=some (.int .i64 up)∧w'.cell? ⟨gw,6,none⟩=some (.int .i64 dn)∧w'.cell? ⟨gw,7,none⟩=some (.string sc)∧w'.cell? ⟨gw,8,none⟩=some (.int .i64 0)∧w'.cell? ⟨gw,9,none⟩=some (.int .i64 0)∧w'.cell? ⟨gw,10,none⟩=some (.slice A 0 c))) (by kernel_rfl) ?_ (fun hHeld=>?_)
  ·exact KS.out _ ((bR _ w1).drew)
  refine tkD 0 (some 3) ?_
  refine tkD 1 (some 4) ?_
  refine wpAnyH_ready (rs:=[2]) (by kernel_rfl) (by simp) ?_
  refine AllReadyH.cons rfl (fun K hK=>?_) AllReadyH.nil
  go_simp
  go_at_call 98
  (with_reducible refine (S1.out _).mono ?_)
  rintro e w' ⟨rfl,rfl⟩
  go_wp2_with fail
  refine hK.out _ _ (KS.out _ ((bR _ w1).drew)) (fun hHeldg1=>?_)
  clear hK K hHeld
  (try simp only [Act.put,sA,sB,sC])
  refine tkD 3 (some 6) ?_
  refine tkD 4 (some 7) ?_
  refine tkD 5 (some 8) ?_
  refine tkD 6 (some 9) ?_
  refine wpAnyH_ready (rs:=[7]) (by kernel_rfl) (by simp) ?_
  refine AllReadyH.cons rfl (fun K hK=>?_) AllReadyH.nil
  go_simp
  go_at_call 98
  (with_reducible refine (S2.out _).mono ?_)
  rintro e w' ⟨rfl,rfl⟩
  go_wp2_with fail
  refine hK.out _ _ (KS.out _ ((bR _ w1).drew)) (fun hHeldg2=>?_)
  clear hK K hHeldg1
  (try simp only [Act.put,sA,sB,sC])
  refine tkD 8 (some 11) ?_
  refine tkD 9 (some 12) ?_
  refine tkD 10 (some 13) ?_
  refine tkD 11 (some 14) ?_
  refine tkD 12 (some 15) ?_
  refine wpAnyH_ready (rs:=[13]) (by kernel_rfl) (by simp) ?_
  refine AllReadyH.cons rfl (fun K hK=>?_) AllReadyH.nil
  go_simp
  go_at_call 98
  (with_reducible refine (S3.out _).mono ?_)
  rintro e w' ⟨rfl,rfl⟩
  go_wp2_with fail
  refine hK.out _ _ (KS.out _ ((bR _ w1).drew)) (fun hHeldg3=>?_)
  clear hK K hHeldg2
  (try simp only [Act.put,sA,sB,sC])
  refine tkD 14 (some 17) ?_
  refine tkD 15 (some 18) ?_
  refine tkD 16 (some 19) ?_
  refine tkD 17 (some 20) ?_
  refine tkD 18 (some 21) ?_
  refine tkD 19 (some 22) ?_
  refine tkD 20 (some 23) ?_
  refine tkD 21 (some 24) ?_
  refine tkD 22 (some 25) ?_
  refine tkD 23 (some 26) ?_
  refine tkD 24 (some 27) ?_
  refine tkD 25 (some 28) ?_
  refine wpAnyH_ready (rs:=[26]) (by kernel_rfl) (by simp) ?_
  refine AllReadyH.cons rfl (fun K hK=>?_) AllReadyH.nil
  go_simp
  refine hK.out _ _ (KS.out _ (((bR _ w1).alloc (nl _) _).drew)) (fun hHeldg4=>?_)
  clear hK K hHeldg3
  (try simp only [Act.put,sA,sB,sC])
  refine wpAnyH_ready (rs:=[27]) (by kernel_rfl) (by simp) ?_
  refine AllReadyH.cons rfl (fun K hK=>?_) AllReadyH.nil
  go_simp
  go_at_call 153
  with_reducible refine (SL.out _ _ _ ?_).mono ?_
  focus (exact zD9 (Blk.new _ _ _))
  rintro e w2 ⟨rfl,hb2⟩
  have hq2:Below w1.heap.size w1 w2:=((bR _ w1).drew).trans (((bR _ w1.drew).alloc (nl _) _).trans (hb2.mono (by simp)))
  clear hb2
  go_wp2_with fail
  refine hK.out _ _ (KS.out _ hq2) (fun hHeldg5=>?_)
  clear hK K hHeldg4
  (try simp only [Act.put,sA,sB,sC])
  refine tkD 28 (some 31) ?_
  refine tkD 29 (some 32) ?_
  refine tkD 30 (some 33) ?_
  refine tkD 31 (some 34) ?_
  refine tkD 32 (some 35) ?_
  refine wpAnyH_ready (rs:=[33]) (by kernel_rfl) (by simp) ?_
  refine AllReadyH.cons rfl (fun K hK=>?_) AllReadyH.nil
  go_simp
  go_at_call 157
  with_reducible refine (SP.out _).mono ?_
  rintro e w3 ⟨rfl,hb3⟩
  have hq3:Below w1.heap.size w1 w3:=hq2.trans (hb3.mono hq2.size)
  clear hb3
  go_wp2_with fail
  refine hK.out _ _ (KS.out _ hq3) (fun hHeldg6=>?_)
  clear hK K hHeldg5
  (try simp only [Act.put,sA,sB,sC])
  refine wpAnyH_ready (rs:=[34]) (by kernel_rfl) (by simp) ?_
  refine AllReadyH.cons rfl (fun K hK=>?_) AllReadyH.nil
  go_simp
  go_at_call 156
  with_reducible refine (SS.out _ ?_ ?_).mono ?_
  focus (exact HT.out.below (nl _) (HW1.out.trans (hq3.mono HW1.out.size)))
  focus (exact HTP.out _ (HW1.out.trans (hq3.mono HW1.out.size)))
  rintro e w4 ⟨rfl,hb4⟩
  have hq4:Below w1.heap.size w1 w4:=hq3.trans (hb4.mono hq3.size)
  clear hb4
  go_wp2_with fail
  refine hK.out _ _ (KS.out _ hq4) (fun hHeldg7=>?_)
  clear hK K hHeldg6
  (try simp only [Act.put,sA,sB,sC])
  refine tkD 35 (some 38) ?_
  refine tkD 36 (some 39) ?_
  refine wpAnyH_done (by kernel_rfl) ?_ _
  have HQ4:Hid (Below w.heap.size w w4):=zB8 HW1.out hq4
  have KC4:=LH (HB1.out.call hq4)
  obtain ⟨c3,c4,c5,c6,c7,c8,c9,c10⟩:=lk_all KC4.out
  clear hq2 hq3 hq4 KS
  by_cases q1:1≤ln∧ln≤16777216
  case neg=>
   have t0:=SN0.out
   rw [dF q1] at t0
   have SN:=LH t0
   clear t0
   obtain rfl:V=false:=by rw [HVV.out];exact zA0 fun h=>(by rcases (HG.out.1 h).2 with h |h |h |h;exact q1 h.2.1;exact absurd h.1 (by omega);exact absurd h.1 (by omega);exact absurd h.1 (by omega))
   clear q1
   go_wp2_with (first
        |(go_at_call 152;(with_reducible refine (SN.out _).mono ?_);rintro e w' ⟨rfl,rfl⟩))
   go_ret
   first
   |exact ⟨rfl,by first |exact HQ7.out |exact HQ6.out |exact HQ5.out |exact HQ4.out⟩
   |(subst hgw;exact ⟨rfl,by first |exact HQ7.out |exact HQ6.out |exact HQ5.out |exact HQ4.out⟩)
  have t0:=SN0.out
  rw [dU q1] at t0
  have SN:=LH t0
  clear t0
  by_cases q2:lvP dn
  case neg=>
   have SM:=LH (SM0.out false ⟨fun h=>(by cases h),fun h=>absurd ((HONE.out dn).1 h) q2⟩)
   obtain rfl:V=false:=by rw [HVV.out];exact zA0 fun h=>q2 (HG.out.1 h).1
   clear q1 q2
   go_wp2_with (first
        |(go_at_call 152;(with_reducible refine (SN.out _).mono ?_);rintro e w' ⟨rfl,rfl⟩)
        |(go_at_call 153
          with_reducible refine (SM.out _ _ _ ?_).mono ?_
          focus (exact zD9 (Blk.new _ _ _))
          rintro e w5 ⟨rfl,hb5⟩
          have HQ5:Hid (Below w.heap.size w w5):=zB8 (HQ4.out.alloc HQ4.out.size _) hb5
          have KC5:=LH (KC4.out.call (((bR _ w4).alloc (nl _) _).trans (hb5.mono (by simp))))
          obtain ⟨c5,c6,c7,c10⟩:=zI2 KC5.out
          clear hb5))
   go_ret
   first
   |exact ⟨rfl,by first |exact HQ7.out |exact HQ6.out |exact HQ5.out |exact HQ4.out⟩
   |(subst hgw;exact ⟨rfl,by first |exact HQ7.out |exact HQ6.out |exact HQ5.out |exact HQ4.out⟩)
  have SM:=LH (SM0.out true ⟨fun _=>(HONE.out dn).2 q2,fun _=>rfl⟩)
  by_cases q3:zD1 sc.data.toList=true
  case neg=>
   have q3':zD1 sc.data.toList=false:=by simpa using q3
   have t0:=S40.out
   rw [q3'] at t0
   have S4:=LH t0
   clear t0
   obtain rfl:V=false:=by rw [HVV.out];exact zA0 fun h=>(by rcases (HG.out.1 h).2 with h |h |h |h;exact q3 h.2.2.1;exact absurd h.1 (by omega);exact absurd h.1 (by omega);exact absurd h.1 (by omega))
   clear q1 q2 q3 q3'
   go_wp2_with (first
        |(go_at_call 152;(with_reducible refine (SN.out _).mono ?_);rintro e w' ⟨rfl,rfl⟩)
        |(go_at_call 98;(with_reducible refine (S4.out _).mono ?_);rintro e w' ⟨rfl,rfl⟩)
        |(go_at_call 153
          with_reducible refine (SM.out _ _ _ ?_).mono ?_
          focus (exact zD9 (Blk.new _ _ _))
          rintro e w5 ⟨rfl,hb5⟩
          have HQ5:Hid (Below w.heap.size w w5):=zB8 (HQ4.out.alloc HQ4.out.size _) hb5
          have KC5:=LH (KC4.out.call (((bR _ w4).alloc (nl _) _).trans (hb5.mono (by simp))))
          obtain ⟨c5,c6,c7,c10⟩:=zI2 KC5.out
          clear hb5))
   go_ret
   first
   |exact ⟨rfl,by first |exact HQ7.out |exact HQ6.out |exact HQ5.out |exact HQ4.out⟩
   |(subst hgw;exact ⟨rfl,by first |exact HQ7.out |exact HQ6.out |exact HQ5.out |exact HQ4.out⟩)
  have t0:=S40.out
  rw [q3] at t0
  have S4:=LH t0
  clear t0
  obtain rfl:V=true:=by rw [HVV.out];exact zA2 (HG.out.2 ⟨q2,.inl ⟨by trivial,q1,q3,by trivial,by trivial,by trivial⟩⟩)
  clear q1 q2 q3
  go_wp2_with (first
   |(go_at_call 152;(with_reducible refine (SN.out _).mono ?_);rintro e w' ⟨rfl,rfl⟩)
   |(go_at_call 98;(with_reducible refine (S4.out _).mono ?_);rintro e w' ⟨rfl,rfl⟩)
   |(go_at_call 153
     with_reducible refine (SM.out _ _ _ ?_).mono ?_
     focus (exact zD9 (Blk.new _ _ _))
     rintro e w5 ⟨rfl,hb5⟩
     have HQ5:Hid (Below w.heap.size w w5):=zB8 (HQ4.out.alloc HQ4.out.size _) hb5
     have KC5:=LH (KC4.out.call (((bR _ w4).alloc (nl _) _).trans (hb5.mono (by simp))))
     obtain ⟨c5,c6,c7,c10⟩:=zI2 KC5.out
     clear hb5))
  go_ret
  first
  |exact ⟨rfl,by first |exact HQ7.out |exact HQ6.out |exact HQ5.out |exact HQ4.out⟩
  |(subst hgw;exact ⟨rfl,by first |exact HQ7.out |exact HQ6.out |exact HQ5.out |exact HQ4.out⟩)
 have v1:(kd==1)=false:=by simpa using k1
 by_cases k2:kd=2
 case pos=>
  subst k2
  have spl:=fun w=>nplain2 nm fr tn ln up dn sc wd ht A n c w
  have SP:=LH spl
  have HTP:Hid (∀w',Below w.heap.size w w'→TabIn w' none 0 (fun _=>0) (fun _=>0)):=fun w' h=>⟨by omega,.inl rfl⟩
  have ss:=fun w hA hB=>nsame nm fr tn 2 ln up dn sc wd ht A n c X Y nm fr tn 2 0 up 0 ⟨#[]⟩ wd 0 none 0 0 (fun _=>0) (fun _=>0) w hA hB
  by_cases ge:lkEq nm fr tn 2 ln up dn sc wd ht n X Y nm fr tn 2 0 up 0 ⟨#[]⟩ wd 0 0 (fun _=>0) (fun _=>0)
  case neg=>
   have hVF:V=false:=by rw [hV];exact zA0 fun h=>(by rcases (hg.1 h).2 with h |h |h |h;exact absurd h.1 (by omega);exact ge ⟨rfl,rfl,rfl,rfl,h.2.1,rfl,h.2.2.1,hz _ h.2.2.2.1,rfl,h.2.2.2.2.2.1,h.2.2.2.2.2.2,fun j hj=>by omega⟩;exact absurd h.1 (by omega);exact absurd h.1 (by omega))
   rw [zA0 ge] at ss
   subst hVF
   have S1:=LH s1
   have S2:=LH s2
   have S3:=LH s3
   have SS:=LH ss
   clear ge hV hg hz h0 hone hn2 s1 s2 s3 s4 sm sn sw sv st sp ss spl k1
   go_enter Tryz.func114,Tryz.ntmps114
   go_upto_region 1 with fail
   have HB1:=LH (Blk.new w 32 #[.string nm,.string fr,.string tn,.int .i64 2,.int .i64 ln,.int .i64 up,.int .i64 dn,.string sc,.int .i64 wd,.int .i64 ht,.slice A n c])
   have HW1:Hid (Below w.heap.size w (w.alloc (Obj.cells #[.string nm,.string fr,.string tn,.int .i64 2,.int .i64 ln,.int .i64 up,.int .i64 dn,.string sc,.int .i64 wd,.int .i64 ht,.slice A n c] 32))):=(bR _ w).alloc (nl _) _
   have HL1:Hid (w.heap.size<(w.alloc (Obj.cells #[.string nm,.string fr,.string tn,.int .i64 2,.int .i64 ln,.int .i64 up,.int .i64 dn,.string sc,.int .i64 wd,.int .i64 ht,.slice A n c] 32)).heap.size):=HB1.out.lt
   generalize w.alloc (Obj.cells #[.string nm,.string fr,.string tn,.int .i64 2,.int .i64 ln,.int .i64 up,.int .i64 dn,.string sc,.int .i64 wd,.int .i64 ht,.slice A n c] 32)=w1 at HB1 HW1 HL1⊢
   generalize hgw:w.heap.size=gw at HB1 HL1⊢
   have KS:Hid (∀w',Below w1.heap.size w1 w'→w'.cell? ⟨gw,0,none⟩=some (.string nm)∧w'.cell? ⟨gw,1,none⟩=some (.string fr)∧w'.cell? ⟨gw,2,none⟩=some (.string tn)∧w'.cell? ⟨gw,3,none⟩=some (.int .i64 2)∧w'.cell? ⟨gw,4,none⟩=some (.int .i64 ln)∧w'.cell? ⟨gw,5,none⟩=some (.int .i64 up)∧w'.cell? ⟨gw,6,none⟩=some (.int .i64 dn)∧w'.cell? ⟨gw,7,none⟩=some (.string sc)∧w'.cell? ⟨gw,8,none⟩=some (.int .i64 wd)∧w'.cell? ⟨gw,9,none⟩=some (.int .i64 ht)∧w'.cell? ⟨gw,10,none⟩=some (.slice A n c)):=fun w' h=>by
        have hb:=HB1.out.call h
        exact ⟨hb.cell 0,hb.cell 1,hb.cell 2,hb.cell 3,hb.cell 4,hb.cell 5,hb.cell 6,hb.cell 7,hb.cell 8,hb.cell 9,hb.cell 10⟩
   refine wp_region_held_drew (S:=(fun w'=>w'.cell? ⟨gw,0,none⟩=some (.string nm)∧w'.cell? ⟨gw,1,none⟩=some (.string fr)∧w'.cell? ⟨gw,2,none⟩=some (.string tn)∧w'.cell? ⟨gw,3,none⟩=some (.int .i64 2)∧w'.cell? ⟨gw,4,none⟩=some (.int .i64 ln)∧w'.cell? ⟨gw,5,none⟩=some (.int .i64 up)∧w'.cell? ⟨gw,6,none⟩=some (.int .i64 dn)∧w'.cell? ⟨gw,7,none⟩=some (.string sc)∧w'.cell? ⟨gw,8,none⟩=some (.int .i64 wd)∧w'.cell? ⟨gw,9,none⟩=some (.int .i64 ht)∧w'.cell? ⟨gw,10,none⟩=some (.slice A n c))) (by kernel_rfl) ?_ (fun hHeld=>?_)
   ·exact KS.out _ ((bR _ w1).drew)
   refine tkD 0 (some 3) ?_
   refine tkD 1 (some 4) ?_
   refine wpAnyH_ready (rs:=[2]) (by kernel_rfl) (by simp) ?_
   refine AllReadyH.cons rfl (fun K hK=>?_) AllReadyH.nil
   go_simp
   go_at_call 98
   (with_reducible refine (S1.out _).mono ?_)
   rintro e w' ⟨rfl,rfl⟩
   go_wp2_with fail
   refine hK.out _ _ (KS.out _ ((bR _ w1).drew)) (fun hHeldh1=>?_)
   clear hK K hHeld
   (try simp only [Act.put,sA,sB,sC])
   refine tkD 3 (some 6) ?_
   refine tkD 4 (some 7) ?_
   refine tkD 5 (some 8) ?_
   refine tkD 6 (some 9) ?_
   refine wpAnyH_ready (rs:=[7]) (by kernel_rfl) (by simp) ?_
   refine AllReadyH.cons rfl (fun K hK=>?_) AllReadyH.nil
   go_simp
   go_at_call 98
   (with_reducible refine (S2.out _).mono ?_)
   rintro e w' ⟨rfl,rfl⟩
   go_wp2_with fail
   refine hK.out _ _ (KS.out _ ((bR _ w1).drew)) (fun hHeldh2=>?_)
   clear hK K hHeldh1
   (try simp only [Act.put,sA,sB,sC])
   refine tkD 8 (some 11) ?_
   refine tkD 9 (some 12) ?_
   refine tkD 10 (some 13) ?_
   refine tkD 11 (some 14) ?_
   refine tkD 12 (some 15) ?_
   refine wpAnyH_ready (rs:=[13]) (by kernel_rfl) (by simp) ?_
   refine AllReadyH.cons rfl (fun K hK=>?_) AllReadyH.nil
   go_simp
   go_at_call 98
   (with_reducible refine (S3.out _).mono ?_)
   rintro e w' ⟨rfl,rfl⟩
   go_wp2_with fail
   refine hK.out _ _ (KS.out _ ((bR _ w1).drew)) (fun hHeldh3=>?_)
   clear hK K hHeldh2
   (try simp only [Act.put,sA,sB,sC])
   refine tkD 14 (some 17) ?_
   refine tkD 15 (some 18) ?_
   refine tkD 16 (some 19) ?_
   refine tkD 17 (some 20) ?_
   refine tkD 18 (some 21) ?_
   refine tkD 19 (some 22) ?_
   refine tkD 20 (some 23) ?_
   refine tkD 21 (some 24) ?_
   refine tkD 22 (some 25) ?_
   refine tkD 23 (some 26) ?_
   refine tkD 24 (some 27) ?_
   refine tkD 25 (some 28) ?_
   refine wpAnyH_ready (rs:=[26]) (by kernel_rfl) (by simp) ?_
   refine AllReadyH.cons rfl (fun K hK=>?_) AllReadyH.nil
   go_simp
   refine hK.out _ _ (KS.out _ (((bR _ w1).alloc (nl _) _).drew)) (fun hHeldh4=>?_)
   clear hK K hHeldh3
   (try simp only [Act.put,sA,sB,sC])
   refine wpAnyH_ready (rs:=[27]) (by kernel_rfl) (by simp) ?_
   refine AllReadyH.cons rfl (fun K hK=>?_) AllReadyH.nil
   go_simp
   go_at_call 153
   with_reducible refine (SL.out _ _ _ ?_).mono ?_
   focus (exact zD9 (Blk.new _ _ _))
   rintro e w2 ⟨rfl,hb2⟩
   have hq2:Below w1.heap.size w1 w2:=((bR _ w1).drew).trans (((bR _ w1.drew).alloc (nl _) _).trans (hb2.mono (by simp)))
   clear hb2
   go_wp2_with fail
   refine hK.out _ _ (KS.out _ hq2) (fun hHeldh5=>?_)
   clear hK K hHeldh4
   (try simp only [Act.put,sA,sB,sC])
   refine tkD 28 (some 31) ?_
   refine tkD 29 (some 32) ?_
   refine tkD 30 (some 33) ?_
   refine tkD 31 (some 34) ?_
   refine tkD 32 (some 35) ?_
   refine wpAnyH_ready (rs:=[33]) (by kernel_rfl) (by simp) ?_
   refine AllReadyH.cons rfl (fun K hK=>?_) AllReadyH.nil
   go_simp
   go_at_call 157
   with_reducible refine (SP.out _).mono ?_
   rintro e w3 ⟨rfl,hb3⟩
   have hq3:Below w1.heap.size w1 w3:=hq2.trans (hb3.mono hq2.size)
   clear hb3
   go_wp2_with fail
   refine hK.out _ _ (KS.out _ hq3) (fun hHeldh6=>?_)
   clear hK K hHeldh5
   (try simp only [Act.put,sA,sB,sC])
   refine wpAnyH_ready (rs:=[34]) (by kernel_rfl) (by simp) ?_
   refine AllReadyH.cons rfl (fun K hK=>?_) AllReadyH.nil
   go_simp
   go_at_call 156
   with_reducible refine (SS.out _ ?_ ?_).mono ?_
   focus (exact HT.out.below (nl _) (HW1.out.trans (hq3.mono HW1.out.size)))
   focus (exact HTP.out _ (HW1.out.trans (hq3.mono HW1.out.size)))
   rintro e w4 ⟨rfl,hb4⟩
   have hq4:Below w1.heap.size w1 w4:=hq3.trans (hb4.mono hq3.size)
   clear hb4
   go_wp2_with fail
   refine hK.out _ _ (KS.out _ hq4) (fun hHeldh7=>?_)
   clear hK K hHeldh6
   (try simp only [Act.put,sA,sB,sC])
   refine tkD 35 (some 38) ?_
   refine tkD 36 (some 39) ?_
   refine wpAnyH_done (by kernel_rfl) ?_ _
   go_wp2_with fail
   go_ret
   exact ⟨rfl,zB8 HW1.out hq4⟩
  rw [zA2 ge] at ss
  obtain ⟨_,_,_,_,e1,_,e2,e4,_,e5,e3⟩:=ge
  subst e1
  subst e2
  subst e4
  subst e5
  obtain rfl:=e3.1
  clear e3
  have SS:=LH ss
  have S1:=LH s1
  have S2:=LH s2
  have S3:=LH s3
  have HG:=LH hg
  have HVV:=LH hV
  have SM0:=LH sm
  have SW0:=LH sw
  have SV0:=LH sv
  have ST0:=LH st
  have SB0:=LH sp
  have HONE:=LH hone
  clear hV hg hz h0 hone hn2 s1 s2 s3 s4 sm sn sw sv st sp ss spl k1
  go_enter Tryz.func114,Tryz.ntmps114
  go_upto_region 1 with fail
  have HB1:=LH (Blk.new w 32 #[.string nm,.string fr,.string tn,.int .i64 2,.int .i64 0,.int .i64 up,.int .i64 0,.string ⟨#[]⟩,.int .i64 wd,.int .i64 0,.slice A 0 c])
  have HW1:Hid (Below w.heap.size w (w.alloc (Obj.cells #[.string nm,.string fr,.string tn,.int .i64 2,.int .i64 0,.int .i64 up,.int .i64 0,.string ⟨#[]⟩,.int .i64 wd,.int .i64 0,.slice A 0 c] 32))):=(bR _ w).alloc (nl _) _
  have HL1:Hid (w.heap.size<(w.alloc (Obj.cells #[.string nm,.string fr,.string tn,.int .i64 2,.int .i64 0,.int .i64 up,.int .i64 0,.string ⟨#[]⟩,.int .i64 wd,.int .i64 0,.slice A 0 c] 32)).heap.size):=HB1.out.lt
  generalize w.alloc (Obj.cells #[.string nm,.string fr,.string tn,.int .i64 2,.int .i64 0,.int .i64 up,.int .i64 0,.string ⟨#[]⟩,.int .i64 wd,.int .i64 0,.slice A 0 c] 32)=w1 at HB1 HW1 HL1⊢
  generalize hgw:w.heap.size=gw at HB1 HL1⊢
  have KS:Hid (∀w',Below w1.heap.size w1 w'→w'.cell? ⟨gw,0,none⟩=some (.string nm)∧w'.cell? ⟨gw,1,none⟩=some (.string fr)∧w'.cell? ⟨gw,2,none⟩=some (.string tn)∧w'.cell? ⟨gw,3,none⟩=some (.int .i64 2)∧w'.cell? ⟨gw,4,none⟩=some (.int .i64 0)∧w'.cell? ⟨gw,5,none⟩=some (.int .i64 up)∧w'.cell? ⟨gw,6,none⟩=some (.int .i64 0)∧w'.cell? ⟨gw,7,none⟩=some (.string ⟨#[]⟩)∧w'.cell? ⟨gw,8,none⟩=some (.int .i64 wd)∧w'.cell? ⟨gw,9,none⟩=some (.int .i64 0)∧w'.cell? ⟨gw,10,none⟩=some (.slice A 0 c)):=fun w' h=>by
   have hb:=HB1.out.call h
   exact ⟨hb.cell 0,hb.cell 1,hb.cell 2,hb.cell 3,hb.cell 4,hb.cell 5,hb.cell 6,hb.cell 7,hb.cell 8,hb.cell 9,hb.cell 10⟩
  refine wp_region_held_drew (S:=(fun w'=>w'.cell? ⟨gw,0,none⟩=some (.string nm)∧w'.cell? ⟨gw,1,none⟩=some (.string fr)∧w'.cell? ⟨gw,2,none⟩=some (.string tn)∧w'.cell? ⟨gw,3,none⟩=some (.int .i64 2)∧w'.cell? ⟨gw,4,none⟩=some (.int .i64 0)∧w'.cell? ⟨gw,5,none⟩=some (.int .i64 up)∧w'.cell? ⟨gw,6,none⟩=some (.int .i64 0)∧w'.cell? ⟨gw,7,none⟩=some (.string ⟨#[]⟩)∧w'.cell? ⟨gw,8,none⟩=some (.int .i64 wd)∧w'.cell? ⟨gw,9,none⟩=some (.int .i64 0)∧w'.cell? ⟨gw,10,none⟩=some (.slice A 0 c))) (by kernel_rfl) ?_ (fun hHeld=>?_)
  ·exact KS.out _ ((bR _ w1).drew)
  refine tkD 0 (some 3) ?_
  refine tkD 1 (some 4) ?_
  refine wpAnyH_ready (rs:=[2]) (by kernel_rfl) (by simp) ?_
  refine AllReadyH.cons rfl (fun K hK=>?_) AllReadyH.nil
  go_simp
  go_at_call 98
  (with_reducible refine (S1.out _).mono ?_)
  rintro e w' ⟨rfl,rfl⟩
  go_wp2_with fail
  refine hK.out _ _ (KS.out _ ((bR _ w1).drew)) (fun hHeldi1=>?_)
  clear hK K hHeld
  (try simp only [Act.put,sA,sB,sC])
  refine tkD 3 (some 6) ?_
  refine tkD 4 (some 7) ?_
  refine tkD 5 (some 8) ?_
  refine tkD 6 (some 9) ?_
  refine wpAnyH_ready (rs:=[7]) (by kernel_rfl) (by simp) ?_
  refine AllReadyH.cons rfl (fun K hK=>?_) AllReadyH.nil
  go_simp
  go_at_call 98
  (with_reducible refine (S2.out _).mono ?_)
  rintro e w' ⟨rfl,rfl⟩
  go_wp2_with fail
  refine hK.out _ _ (KS.out _ ((bR _ w1).drew)) (fun hHeldi2=>?_)
  clear hK K hHeldi1
  (try simp only [Act.put,sA,sB,sC])
  refine tkD 8 (some 11) ?_
  refine tkD 9 (some 12) ?_
  refine tkD 10 (some 13) ?_
  refine tkD 11 (some 14) ?_
  refine tkD 12 (some 15) ?_
  refine wpAnyH_ready (rs:=[13]) (by kernel_rfl) (by simp) ?_
  refine AllReadyH.cons rfl (fun K hK=>?_) AllReadyH.nil
  go_simp
  go_at_call 98
  (with_reducible refine (S3.out _).mono ?_)
  rintro e w' ⟨rfl,rfl⟩
  go_wp2_with fail
  refine hK.out _ _ (KS.out _ ((bR _ w1).drew)) (fun hHeldi3=>?_)
  clear hK K hHeldi2
  (try simp only [Act.put,sA,sB,sC])
  refine tkD 14 (some 17) ?_
  refine tkD 15 (some 18) ?_
  refine tkD 16 (some 19) ?_
  refine tkD 17 (some 20) ?_
  refine tkD 18 (some 21) ?_
  refine tkD 19 (some 22) ?_
  refine tkD 20 (some 23) ?_
  refine tkD 21 (some 24) ?_
  refine tkD 22 (some 25) ?_
  refine tkD 23 (some 26) ?_
  refine tkD 24 (some 27) ?_
  refine tkD 25 (some 28) ?_
  refine wpAnyH_ready (rs:=[26]) (by kernel_rfl) (by simp) ?_
  refine AllReadyH.cons rfl (fun K hK=>?_) AllReadyH.nil
  go_simp
  refine hK.out _ _ (KS.out _ (((bR _ w1).alloc (nl _) _).drew)) (fun hHeldi4=>?_)
  clear hK K hHeldi3
  (try simp only [Act.put,sA,sB,sC])
  refine wpAnyH_ready (rs:=[27]) (by kernel_rfl) (by simp) ?_
  refine AllReadyH.cons rfl (fun K hK=>?_) AllReadyH.nil
  go_simp
  go_at_call 153
  with_reducible refine (SL.out _ _ _ ?_).mono ?_
  focus (exact zD9 (Blk.new _ _ _))
  rintro e w2 ⟨rfl,hb2⟩
  have hq2:Below w1.heap.size w1 w2:=((bR _ w1).drew).trans (((bR _ w1.drew).alloc (nl _) _).trans (hb2.mono (by simp)))
  clear hb2
  go_wp2_with fail
  refine hK.out _ _ (KS.out _ hq2) (fun hHeldi5=>?_)
  clear hK K hHeldi4
  (try simp only [Act.put,sA,sB,sC])
  refine tkD 28 (some 31) ?_
  refine tkD 29 (some 32) ?_
  refine tkD 30 (some 33) ?_
  refine tkD 31 (some 34) ?_
  refine tkD 32 (some 35) ?_
  refine wpAnyH_ready (rs:=[33]) (by kernel_rfl) (by simp) ?_
  refine AllReadyH.cons rfl (fun K hK=>?_) AllReadyH.nil
  go_simp
  go_at_call 157
  with_reducible refine (SP.out _).mono ?_
  rintro e w3 ⟨rfl,hb3⟩
  have hq3:Below w1.heap.size w1 w3:=hq2.trans (hb3.mono hq2.size)
  clear hb3
  go_wp2_with fail
  refine hK.out _ _ (KS.out _ hq3) (fun hHeldi6=>?_)
  clear hK K hHeldi5
  (try simp only [Act.put,sA,sB,sC])
  refine wpAnyH_ready (rs:=[34]) (by kernel_rfl) (by simp) ?_
  refine AllReadyH.cons rfl (fun K hK=>?_) AllReadyH.nil
  go_simp
  go_at_call 156
  with_reducible refine (SS.out _ ?_ ?_).mono ?_
  focus (exact HT.out.below (nl _) (HW1.out.trans (hq3.mono HW1.out.size)))
  focus (exact HTP.out _ (HW1.out.trans (hq3.mono HW1.out.size)))
  rintro e w4 ⟨rfl,hb4⟩
  have hq4:Below w1.heap.size w1 w4:=hq3.trans (hb4.mono hq3.size)
  clear hb4
  go_wp2_with fail
  refine hK.out _ _ (KS.out _ hq4) (fun hHeldi7=>?_)
  clear hK K hHeldi6
  (try simp only [Act.put,sA,sB,sC])
  refine tkD 35 (some 38) ?_
  refine tkD 36 (some 39) ?_
  refine wpAnyH_done (by kernel_rfl) ?_ _
  have HQ4:Hid (Below w.heap.size w w4):=zB8 HW1.out hq4
  have KC4:=LH (HB1.out.call hq4)
  obtain ⟨c3,c4,c5,c6,c7,c8,c9,c10⟩:=lk_all KC4.out
  clear hq2 hq3 hq4 KS
  have SW1:=LH (SW0.out 1048576)
  have hd0:lvP 0:=by unfold lvP;omega
  by_cases q1:1≤wd∧wd≤1048576
  case neg=>
   have t0:=SW1.out
   rw [dF q1] at t0
   have SW:=LH t0
   clear t0
   obtain rfl:V=false:=by rw [HVV.out];exact zA0 fun h=>(by rcases (HG.out.1 h).2 with h |h |h |h;exact absurd h.1 (by omega);exact q1 h.2.2.2.2.1;exact absurd h.1 (by omega);exact absurd h.1 (by omega))
   clear q1 hd0
   go_wp2_with (first
        |(go_at_call 152;(with_reducible refine (SW.out _).mono ?_);rintro e w' ⟨rfl,rfl⟩))
   go_ret
   first
   |exact ⟨rfl,by first |exact HQ7.out |exact HQ6.out |exact HQ5.out |exact HQ4.out⟩
   |(subst hgw;exact ⟨rfl,by first |exact HQ7.out |exact HQ6.out |exact HQ5.out |exact HQ4.out⟩)
  have t0:=SW1.out
  rw [dU q1] at t0
  have SW:=LH t0
  clear t0
  obtain rfl:V=true:=by rw [HVV.out];exact zA2 (HG.out.2 ⟨hd0,.inr (.inl ⟨by trivial,by trivial,by trivial,by trivial,q1,by trivial,by trivial⟩)⟩)
  clear q1 hd0
  go_wp2_with (first
   |(go_at_call 152;(with_reducible refine (SW.out _).mono ?_);rintro e w' ⟨rfl,rfl⟩))
  go_ret
  first
  |exact ⟨rfl,by first |exact HQ7.out |exact HQ6.out |exact HQ5.out |exact HQ4.out⟩
  |(subst hgw;exact ⟨rfl,by first |exact HQ7.out |exact HQ6.out |exact HQ5.out |exact HQ4.out⟩)
 have v2:(kd==2)=false:=by simpa using k2
 by_cases k3:kd=3
 case pos=>
  subst k3
  have spl:=fun w=>nplain3 nm fr tn ln up dn sc wd ht A n c w
  have SP:=LH spl
  have HTP:Hid (∀w',Below w.heap.size w w'→TabIn w' none 0 (fun _=>0) (fun _=>0)):=fun w' h=>⟨by omega,.inl rfl⟩
  have ss:=fun w hA hB=>nsame nm fr tn 3 ln up dn sc wd ht A n c X Y nm fr tn 3 0 up 0 ⟨#[]⟩ wd ht none 0 0 (fun _=>0) (fun _=>0) w hA hB
  by_cases ge:lkEq nm fr tn 3 ln up dn sc wd ht n X Y nm fr tn 3 0 up 0 ⟨#[]⟩ wd ht 0 (fun _=>0) (fun _=>0)
  case neg=>
   have hVF:V=false:=by rw [hV];exact zA0 fun h=>(by rcases (hg.1 h).2 with h |h |h |h;exact absurd h.1 (by omega);exact absurd h.1 (by omega);exact ge ⟨rfl,rfl,rfl,rfl,h.2.1,rfl,h.2.2.1,hz _ h.2.2.2.1,rfl,rfl,h.2.2.2.2.2.2,fun j hj=>by omega⟩;exact absurd h.1 (by omega))
   rw [zA0 ge] at ss
   subst hVF
   have S1:=LH s1
   have S2:=LH s2
   have S3:=LH s3
   have SS:=LH ss
   clear ge hV hg hz h0 hone hn2 s1 s2 s3 s4 sm sn sw sv st sp ss spl k1 k2
   go_enter Tryz.func114,Tryz.ntmps114
   go_upto_region 1 with fail
   have HB1:=LH (Blk.new w 32 #[.string nm,.string fr,.string tn,.int .i64 3,.int .i64 ln,.int .i64 up,.int .i64 dn,.string sc,.int .i64 wd,.int .i64 ht,.slice A n c])
   have HW1:Hid (Below w.heap.size w (w.alloc (Obj.cells #[.string nm,.string fr,.string tn,.int .i64 3,.int .i64 ln,.int .i64 up,.int .i64 dn,.string sc,.int .i64 wd,.int .i64 ht,.slice A n c] 32))):=(bR _ w).alloc (nl _) _
   have HL1:Hid (w.heap.size<(w.alloc (Obj.cells #[.string nm,.string fr,.string tn,.int .i64 3,.int .i64 ln,.int .i64 up,.int .i64 dn,.string sc,.int .i64 wd,.int .i64 ht,.slice A n c] 32)).heap.size):=HB1.out.lt
   generalize w.alloc (Obj.cells #[.string nm,.string fr,.string tn,.int .i64 3,.int .i64 ln,.int .i64 up,.int .i64 dn,.string sc,.int .i64 wd,.int .i64 ht,.slice A n c] 32)=w1 at HB1 HW1 HL1⊢
   generalize hgw:w.heap.size=gw at HB1 HL1⊢
   have KS:Hid (∀w',Below w1.heap.size w1 w'→w'.cell? ⟨gw,0,none⟩=some (.string nm)∧w'.cell? ⟨gw,1,none⟩=some (.string fr)∧w'.cell? ⟨gw,2,none⟩=some (.string tn)∧w'.cell? ⟨gw,3,none⟩=some (.int .i64 3)∧w'.cell? ⟨gw,4,none⟩=some (.int .i64 ln)∧w'.cell? ⟨gw,5,none⟩=some (.int .i64 up)∧w'.cell? ⟨gw,6,none⟩=some (.int .i64 dn)∧w'.cell? ⟨gw,7,none⟩=some (.string sc)∧w'.cell? ⟨gw,8,none⟩=some (.int .i64 wd)∧w'.cell? ⟨gw,9,none⟩=some (.int .i64 ht)∧w'.cell? ⟨gw,10,none⟩=some (.slice A n c)):=fun w' h=>by
        have hb:=HB1.out.call h
        exact ⟨hb.cell 0,hb.cell 1,hb.cell 2,hb.cell 3,hb.cell 4,hb.cell 5,hb.cell 6,hb.cell 7,hb.cell 8,hb.cell 9,hb.cell 10⟩
   refine wp_region_held_drew (S:=(fun w'=>w'.cell? ⟨gw,0,none⟩=some (.string nm)∧w'.cell? ⟨gw,1,none⟩=some (.string fr)∧w'.cell? ⟨gw,2,none⟩=some (.string tn)∧w'.cell? ⟨gw,3,none⟩=some (.int .i64 3)∧w'.cell? ⟨gw,4,none⟩=some (.int .i64 ln)∧w'.cell? ⟨gw,5,none⟩=some (.int .i64 up)∧w'.cell? ⟨gw,6,none⟩=some (.int .i64 dn)∧w'.cell? ⟨gw,7,none⟩=some (.string sc)∧w'.cell? ⟨gw,8,none⟩=some (.int .i64 wd)∧w'.cell? ⟨gw,9,none⟩=some (.int .i64 ht)∧w'.cell? ⟨gw,10,none⟩=some (.slice A n c))) (by kernel_rfl) ?_ (fun hHeld=>?_)
   ·exact KS.out _ ((bR _ w1).drew)
   refine tkD 0 (some 3) ?_
   refine tkD 1 (some 4) ?_
   refine wpAnyH_ready (rs:=[2]) (by kernel_rfl) (by simp) ?_
   refine AllReadyH.cons rfl (fun K hK=>?_) AllReadyH.nil
   go_simp
   go_at_call 98
   (with_reducible refine (S1.out _).mono ?_)
   rintro e w' ⟨rfl,rfl⟩
   go_wp2_with fail
   refine hK.out _ _ (KS.out _ ((bR _ w1).drew)) (fun hHeldj1=>?_)
   clear hK K hHeld
   (try simp only [Act.put,sA,sB,sC])
   refine tkD 3 (some 6) ?_
   refine tkD 4 (some 7) ?_
   refine tkD 5 (some 8) ?_
   refine tkD 6 (some 9) ?_
   refine wpAnyH_ready (rs:=[7]) (by kernel_rfl) (by simp) ?_
   refine AllReadyH.cons rfl (fun K hK=>?_) AllReadyH.nil
   go_simp
   go_at_call 98
   (with_reducible refine (S2.out _).mono ?_)
   rintro e w' ⟨rfl,rfl⟩
   go_wp2_with fail
   refine hK.out _ _ (KS.out _ ((bR _ w1).drew)) (fun hHeldj2=>?_)
   clear hK K hHeldj1
   (try simp only [Act.put,sA,sB,sC])
   refine tkD 8 (some 11) ?_
   refine tkD 9 (some 12) ?_
   refine tkD 10 (some 13) ?_
   refine tkD 11 (some 14) ?_
   refine tkD 12 (some 15) ?_
   refine wpAnyH_ready (rs:=[13]) (by kernel_rfl) (by simp) ?_
   refine AllReadyH.cons rfl (fun K hK=>?_) AllReadyH.nil
   go_simp
   go_at_call 98
   (with_reducible refine (S3.out _).mono ?_)
   rintro e w' ⟨rfl,rfl⟩
   go_wp2_with fail
   refine hK.out _ _ (KS.out _ ((bR _ w1).drew)) (fun hHeldj3=>?_)
   clear hK K hHeldj2
   (try simp only [Act.put,sA,sB,sC])
   refine tkD 14 (some 17) ?_
   refine tkD 15 (some 18) ?_
   refine tkD 16 (some 19) ?_
   refine tkD 17 (some 20) ?_
   refine tkD 18 (some 21) ?_
   refine tkD 19 (some 22) ?_
   refine tkD 20 (some 23) ?_
   refine tkD 21 (some 24) ?_
   refine tkD 22 (some 25) ?_
   refine tkD 23 (some 26) ?_
   refine tkD 24 (some 27) ?_
   refine tkD 25 (some 28) ?_
   refine wpAnyH_ready (rs:=[26]) (by kernel_rfl) (by simp) ?_
   refine AllReadyH.cons rfl (fun K hK=>?_) AllReadyH.nil
   go_simp
   refine hK.out _ _ (KS.out _ (((bR _ w1).alloc (nl _) _).drew)) (fun hHeldj4=>?_)
   clear hK K hHeldj3
   (try simp only [Act.put,sA,sB,sC])
   refine wpAnyH_ready (rs:=[27]) (by kernel_rfl) (by simp) ?_
   refine AllReadyH.cons rfl (fun K hK=>?_) AllReadyH.nil
   go_simp
   go_at_call 153
   with_reducible refine (SL.out _ _ _ ?_).mono ?_
   focus (exact zD9 (Blk.new _ _ _))
   rintro e w2 ⟨rfl,hb2⟩
   have hq2:Below w1.heap.size w1 w2:=((bR _ w1).drew).trans (((bR _ w1.drew).alloc (nl _) _).trans (hb2.mono (by simp)))
   clear hb2
   go_wp2_with fail
   refine hK.out _ _ (KS.out _ hq2) (fun hHeldj5=>?_)
   clear hK K hHeldj4
   (try simp only [Act.put,sA,sB,sC])
   refine tkD 28 (some 31) ?_
   refine tkD 29 (some 32) ?_
   refine tkD 30 (some 33) ?_
   refine tkD 31 (some 34) ?_
   refine tkD 32 (some 35) ?_
   refine wpAnyH_ready (rs:=[33]) (by kernel_rfl) (by simp) ?_
   refine AllReadyH.cons rfl (fun K hK=>?_) AllReadyH.nil
   go_simp
   go_at_call 157
   with_reducible refine (SP.out _).mono ?_
   rintro e w3 ⟨rfl,hb3⟩
   have hq3:Below w1.heap.size w1 w3:=hq2.trans (hb3.mono hq2.size)
   clear hb3
   go_wp2_with fail
   refine hK.out _ _ (KS.out _ hq3) (fun hHeldj6=>?_)
   clear hK K hHeldj5
   (try simp only [Act.put,sA,sB,sC])
   refine wpAnyH_ready (rs:=[34]) (by kernel_rfl) (by simp) ?_
   refine AllReadyH.cons rfl (fun K hK=>?_) AllReadyH.nil
   go_simp
   go_at_call 156
   with_reducible refine (SS.out _ ?_ ?_).mono ?_
   focus (exact HT.out.below (nl _) (HW1.out.trans (hq3.mono HW1.out.size)))
   focus (exact HTP.out _ (HW1.out.trans (hq3.mono HW1.out.size)))
   rintro e w4 ⟨rfl,hb4⟩
   have hq4:Below w1.heap.size w1 w4:=hq3.trans (hb4.mono hq3.size)
   clear hb4
   go_wp2_with fail
   refine hK.out _ _ (KS.out _ hq4) (fun hHeldj7=>?_)
   clear hK K hHeldj6
   (try simp only [Act.put,sA,sB,sC])
   refine tkD 35 (some 38) ?_
   refine tkD 36 (some 39) ?_
   refine wpAnyH_done (by kernel_rfl) ?_ _
   go_wp2_with fail
   go_ret
   exact ⟨rfl,zB8 HW1.out hq4⟩
  rw [zA2 ge] at ss
  obtain ⟨_,_,_,_,e1,_,e2,e4,_,_,e3⟩:=ge
  subst e1
  subst e2
  subst e4
  obtain rfl:=e3.1
  clear e3
  have SS:=LH ss
  have S1:=LH s1
  have S2:=LH s2
  have S3:=LH s3
  have HG:=LH hg
  have HVV:=LH hV
  have SM0:=LH sm
  have SW0:=LH sw
  have SV0:=LH sv
  have ST0:=LH st
  have SB0:=LH sp
  have HONE:=LH hone
  clear hV hg hz h0 hone hn2 s1 s2 s3 s4 sm sn sw sv st sp ss spl k1 k2
  go_enter Tryz.func114,Tryz.ntmps114
  go_upto_region 1 with fail
  have HB1:=LH (Blk.new w 32 #[.string nm,.string fr,.string tn,.int .i64 3,.int .i64 0,.int .i64 up,.int .i64 0,.string ⟨#[]⟩,.int .i64 wd,.int .i64 ht,.slice A 0 c])
  have HW1:Hid (Below w.heap.size w (w.alloc (Obj.cells #[.string nm,.string fr,.string tn,.int .i64 3,.int .i64 0,.int .i64 up,.int .i64 0,.string ⟨#[]⟩,.int .i64 wd,.int .i64 ht,.slice A 0 c] 32))):=(bR _ w).alloc (nl _) _
  have HL1:Hid (w.heap.size<(w.alloc (Obj.cells #[.string nm,.string fr,.string tn,.int .i64 3,.int .i64 0,.int .i64 up,.int .i64 0,.string ⟨#[]⟩,.int .i64 wd,.int .i64 ht,.slice A 0 c] 32)).heap.size):=HB1.out.lt
  generalize w.alloc (Obj.cells #[.string nm,.string fr,.string tn,.int .i64 3,.int .i64 0,.int .i64 up,.int .i64 0,.string ⟨#[]⟩,.int .i64 wd,.int .i64 ht,.slice A 0 c] 32)=w1 at HB1 HW1 HL1⊢
  generalize hgw:w.heap.size=gw at HB1 HL1⊢
  have KS:Hid (∀w',Below w1.heap.size w1 w'→w'.cell? ⟨gw,0,none⟩=some (.string nm)∧w'.cell? ⟨gw,1,none⟩=some (.string fr)∧w'.cell? ⟨gw,2,none⟩=some (.string tn)∧w'.cell? ⟨gw,3,none⟩=some (.int .i64 3)∧w'.cell? ⟨gw,4,none⟩=some (.int .i64 0)∧w'.cell? ⟨gw,5,none⟩=some (.int .i64 up)∧w'.cell? ⟨gw,6,none⟩=some (.int .i64 0)∧w'.cell? ⟨gw,7,none⟩=some (.string ⟨#[]⟩)∧w'.cell? ⟨gw,8,none⟩=some (.int .i64 wd)∧w'.cell? ⟨gw,9,none⟩=some (.int .i64 ht)∧w'.cell? ⟨gw,10,none⟩=some (.slice A 0 c)):=fun w' h=>by
   have hb:=HB1.out.call h
   exact ⟨hb.cell 0,hb.cell 1,hb.cell 2,hb.cell 3,hb.cell 4,hb.cell 5,hb.cell 6,hb.cell 7,hb.cell 8,hb.cell 9,hb.cell 10⟩
  refine wp_region_held_drew (S:=(fun w'=>w'.cell? ⟨gw,0,none⟩=some (.string nm)∧w'.cell? ⟨gw,1,none⟩=some (.string fr)∧w'.cell? ⟨gw,2,none⟩=some (.string tn)∧w'.cell? ⟨gw,3,none⟩=some (.int .i64 3)∧w'.cell? ⟨gw,4,none⟩=some (.int .i64 0)∧w'.cell? ⟨gw,5,none⟩=some (.int .i64 up)∧w'.cell? ⟨gw,6,none⟩=some (.int .i64 0)∧w'.cell? ⟨gw,7,none⟩=some (.string ⟨#[]⟩)∧w'.cell? ⟨gw,8,none⟩=some (.int .i64 wd)∧w'.cell? ⟨gw,9,none⟩=some (.int .i64 ht)∧w'.cell? ⟨gw,10,none⟩=some (.slice A 0 c))) (by kernel_rfl) ?_ (fun hHeld=>?_)
  ·exact KS.out _ ((bR _ w1).drew)
  refine tkD 0 (some 3) ?_
  refine tkD 1 (some 4) ?_
  refine wpAnyH_ready (rs:=[2]) (by kernel_rfl) (by simp) ?_
  refine AllReadyH.cons rfl (fun K hK=>?_) AllReadyH.nil
  go_simp
  go_at_call 98
  (with_reducible refine (S1.out _).mono ?_)
  rintro e w' ⟨rfl,rfl⟩
  go_wp2_with fail
  refine hK.out _ _ (KS.out _ ((bR _ w1).drew)) (fun hHeldk1=>?_)
  clear hK K hHeld
  (try simp only [Act.put,sA,sB,sC])
  refine tkD 3 (some 6) ?_
  refine tkD 4 (some 7) ?_
  refine tkD 5 (some 8) ?_
  refine tkD 6 (some 9) ?_
  refine wpAnyH_ready (rs:=[7]) (by kernel_rfl) (by simp) ?_
  refine AllReadyH.cons rfl (fun K hK=>?_) AllReadyH.nil
  go_simp
  go_at_call 98
  (with_reducible refine (S2.out _).mono ?_)
  rintro e w' ⟨rfl,rfl⟩
  go_wp2_with fail
  refine hK.out _ _ (KS.out _ ((bR _ w1).drew)) (fun hHeldk2=>?_)
  clear hK K hHeldk1
  (try simp only [Act.put,sA,sB,sC])
  refine tkD 8 (some 11) ?_
  refine tkD 9 (some 12) ?_
  refine tkD 10 (some 13) ?_
  refine tkD 11 (some 14) ?_
  refine tkD 12 (some 15) ?_
  refine wpAnyH_ready (rs:=[13]) (by kernel_rfl) (by simp) ?_
  refine AllReadyH.cons rfl (fun K hK=>?_) AllReadyH.nil
  go_simp
  go_at_call 98
  (with_reducible refine (S3.out _).mono ?_)
  rintro e w' ⟨rfl,rfl⟩
  go_wp2_with fail
  refine hK.out _ _ (KS.out _ ((bR _ w1).drew)) (fun hHeldk3=>?_)
  clear hK K hHeldk2
  (try simp only [Act.put,sA,sB,sC])
  refine tkD 14 (some 17) ?_
  refine tkD 15 (some 18) ?_
  refine tkD 16 (some 19) ?_
  refine tkD 17 (some 20) ?_
  refine tkD 18 (some 21) ?_
  refine tkD 19 (some 22) ?_
  refine tkD 20 (some 23) ?_
  refine tkD 21 (some 24) ?_
  refine tkD 22 (some 25) ?_
  refine tkD 23 (some 26) ?_
  refine tkD 24 (some 27) ?_
  refine tkD 25 (some 28) ?_
  refine wpAnyH_ready (rs:=[26]) (by kernel_rfl) (by simp) ?_
  refine AllReadyH.cons rfl (fun K hK=>?_) AllReadyH.nil
  go_simp
  refine hK.out _ _ (KS.out _ (((bR _ w1).alloc (nl _) _).drew)) (fun hHeldk4=>?_)
  clear hK K hHeldk3
  (try simp only [Act.put,sA,sB,sC])
  refine wpAnyH_ready (rs:=[27]) (by kernel_rfl) (by simp) ?_
  refine AllReadyH.cons rfl (fun K hK=>?_) AllReadyH.nil
  go_simp
  go_at_call 153
  with_reducible refine (SL.out _ _ _ ?_).mono ?_
  focus (exact zD9 (Blk.new _ _ _))
  rintro e w2 ⟨rfl,hb2⟩
  have hq2:Below w1.heap.size w1 w2:=((bR _ w1).drew).trans (((bR _ w1.drew).alloc (nl _) _).trans (hb2.mono (by simp)))
  clear hb2
  go_wp2_with fail
  refine hK.out _ _ (KS.out _ hq2) (fun hHeldk5=>?_)
  clear hK K hHeldk4
  (try simp only [Act.put,sA,sB,sC])
  refine tkD 28 (some 31) ?_
  refine tkD 29 (some 32) ?_
  refine tkD 30 (some 33) ?_
  refine tkD 31 (some 34) ?_
  refine tkD 32 (some 35) ?_
  refine wpAnyH_ready (rs:=[33]) (by kernel_rfl) (by simp) ?_
  refine AllReadyH.cons rfl (fun K hK=>?_) AllReadyH.nil
  go_simp
  go_at_call 157
  with_reducible refine (SP.out _).mono ?_
  rintro e w3 ⟨rfl,hb3⟩
  have hq3:Below w1.heap.size w1 w3:=hq2.trans (hb3.mono hq2.size)
  clear hb3
  go_wp2_with fail
  refine hK.out _ _ (KS.out _ hq3) (fun hHeldk6=>?_)
  clear hK K hHeldk5
  (try simp only [Act.put,sA,sB,sC])
  refine wpAnyH_ready (rs:=[34]) (by kernel_rfl) (by simp) ?_
  refine AllReadyH.cons rfl (fun K hK=>?_) AllReadyH.nil
  go_simp
  go_at_call 156
  with_reducible refine (SS.out _ ?_ ?_).mono ?_
  focus (exact HT.out.below (nl _) (HW1.out.trans (hq3.mono HW1.out.size)))
  focus (exact HTP.out _ (HW1.out.trans (hq3.mono HW1.out.size)))
  rintro e w4 ⟨rfl,hb4⟩
  have hq4:Below w1.heap.size w1 w4:=hq3.trans (hb4.mono hq3.size)
  clear hb4
  go_wp2_with fail
  refine hK.out _ _ (KS.out _ hq4) (fun hHeldk7=>?_)
  clear hK K hHeldk6
  (try simp only [Act.put,sA,sB,sC])
  refine tkD 35 (some 38) ?_
  refine tkD 36 (some 39) ?_
  refine wpAnyH_done (by kernel_rfl) ?_ _
  have HQ4:Hid (Below w.heap.size w w4):=zB8 HW1.out hq4
  have KC4:=LH (HB1.out.call hq4)
  obtain ⟨c3,c4,c5,c6,c7,c8,c9,c10⟩:=lk_all KC4.out
  clear hq2 hq3 hq4 KS
  have SW1:=LH (SW0.out 32768)
  have hd0:lvP 0:=by unfold lvP;omega
  by_cases q1:1≤wd∧wd≤32768
  case neg=>
   have t0:=SW1.out
   rw [dF q1] at t0
   have SW:=LH t0
   clear t0
   obtain rfl:V=false:=by rw [HVV.out];exact zA0 fun h=>(by rcases (HG.out.1 h).2 with h |h |h |h;exact absurd h.1 (by omega);exact absurd h.1 (by omega);exact q1 h.2.2.2.2.1;exact absurd h.1 (by omega))
   clear q1 hd0
   go_wp2_with (first
        |(go_at_call 152;(with_reducible refine (SW.out _).mono ?_);rintro e w' ⟨rfl,rfl⟩))
   go_ret
   first
   |exact ⟨rfl,by first |exact HQ7.out |exact HQ6.out |exact HQ5.out |exact HQ4.out⟩
   |(subst hgw;exact ⟨rfl,by first |exact HQ7.out |exact HQ6.out |exact HQ5.out |exact HQ4.out⟩)
  have t0:=SW1.out
  rw [dU q1] at t0
  have SW:=LH t0
  clear t0
  by_cases q2:1≤ht∧ht≤32768
  case neg=>
   have t0:=SV0.out
   rw [dF q2] at t0
   have SV:=LH t0
   clear t0
   obtain rfl:V=false:=by rw [HVV.out];exact zA0 fun h=>(by rcases (HG.out.1 h).2 with h |h |h |h;exact absurd h.1 (by omega);exact absurd h.1 (by omega);exact q2 h.2.2.2.2.2.1;exact absurd h.1 (by omega))
   clear q1 q2 hd0
   go_wp2_with (first
        |(go_at_call 152;(with_reducible refine (SW.out _).mono ?_);rintro e w' ⟨rfl,rfl⟩)
        |(go_at_call 152;(with_reducible refine (SV.out _).mono ?_);rintro e w' ⟨rfl,rfl⟩))
   go_ret
   first
   |exact ⟨rfl,by first |exact HQ7.out |exact HQ6.out |exact HQ5.out |exact HQ4.out⟩
   |(subst hgw;exact ⟨rfl,by first |exact HQ7.out |exact HQ6.out |exact HQ5.out |exact HQ4.out⟩)
  have t0:=SV0.out
  rw [dU q2] at t0
  have SV:=LH t0
  clear t0
  obtain rfl:V=true:=by rw [HVV.out];exact zA2 (HG.out.2 ⟨hd0,.inr (.inr (.inl ⟨by trivial,by trivial,by trivial,by trivial,q1,q2,by trivial⟩))⟩)
  clear q1 q2 hd0
  go_wp2_with (first
   |(go_at_call 152;(with_reducible refine (SW.out _).mono ?_);rintro e w' ⟨rfl,rfl⟩)
   |(go_at_call 152;(with_reducible refine (SV.out _).mono ?_);rintro e w' ⟨rfl,rfl⟩))
  go_ret
  first
  |exact ⟨rfl,by first |exact HQ7.out |exact HQ6.out |exact HQ5.out |exact HQ4.out⟩
  |(subst hgw;exact ⟨rfl,by first |exact HQ7.out |exact HQ6.out |exact HQ5.out |exact HQ4.out⟩)
 have v3:(kd==3)=false:=by simpa using k3
 by_cases k4:kd=4
 case pos=>
  subst k4
  have spl:=fun w=>nplain4 nm fr tn ln up dn sc wd ht A n c w
  have SP:=LH spl
  have HTP:Hid (∀w',Below w.heap.size w w'→TabIn w' A n X Y):=fun w' h=>HT.out.below (nl _) h
  have ss:=fun w hA hB=>nsame nm fr tn 4 ln up dn sc wd ht A n c X Y nm fr tn 4 0 up dn ⟨#[]⟩ 0 0 A n c X Y w hA hB
  by_cases ge:lkEq nm fr tn 4 ln up dn sc wd ht n X Y nm fr tn 4 0 up dn ⟨#[]⟩ 0 0 n X Y
  case neg=>
   have hVF:V=false:=by rw [hV];exact zA0 fun h=>(by rcases (hg.1 h).2 with h |h |h |h;exact absurd h.1 (by omega);exact absurd h.1 (by omega);exact absurd h.1 (by omega);exact ge ⟨rfl,rfl,rfl,rfl,h.2.1,rfl,rfl,hz _ h.2.2.2.1,h.2.2.2.2.1,h.2.2.2.2.2.1,rfl,fun j hj=>⟨rfl,rfl⟩⟩)
   rw [zA0 ge] at ss
   subst hVF
   have S1:=LH s1
   have S2:=LH s2
   have S3:=LH s3
   have SS:=LH ss
   clear ge hV hg hz h0 hone hn2 s1 s2 s3 s4 sm sn sw sv st sp ss spl k1 k2 k3
   go_enter Tryz.func114,Tryz.ntmps114
   go_upto_region 1 with fail
   have HB1:=LH (Blk.new w 32 #[.string nm,.string fr,.string tn,.int .i64 4,.int .i64 ln,.int .i64 up,.int .i64 dn,.string sc,.int .i64 wd,.int .i64 ht,.slice A n c])
   have HW1:Hid (Below w.heap.size w (w.alloc (Obj.cells #[.string nm,.string fr,.string tn,.int .i64 4,.int .i64 ln,.int .i64 up,.int .i64 dn,.string sc,.int .i64 wd,.int .i64 ht,.slice A n c] 32))):=(bR _ w).alloc (nl _) _
   have HL1:Hid (w.heap.size<(w.alloc (Obj.cells #[.string nm,.string fr,.string tn,.int .i64 4,.int .i64 ln,.int .i64 up,.int .i64 dn,.string sc,.int .i64 wd,.int .i64 ht,.slice A n c] 32)).heap.size):=HB1.out.lt
   generalize w.alloc (Obj.cells #[.string nm,.string fr,.string tn,.int .i64 4,.int .i64 ln,.int .i64 up,.int .i64 dn,.string sc,.int .i64 wd,.int .i64 ht,.slice A n c] 32)=w1 at HB1 HW1 HL1⊢
   generalize hgw:w.heap.size=gw at HB1 HL1⊢
   have KS:Hid (∀w',Below w1.heap.size w1 w'→w'.cell? ⟨gw,0,none⟩=some (.string nm)∧w'.cell? ⟨gw,1,none⟩=some (.string fr)∧w'.cell? ⟨gw,2,none⟩=some (.string tn)∧w'.cell? ⟨gw,3,none⟩=some (.int .i64 4)∧w'.cell? ⟨gw,4,none⟩=some (.int .i64 ln)∧w'.cell? ⟨gw,5,none⟩=some (.int .i64 up)∧w'.cell? ⟨gw,6,none⟩=some (.int .i64 dn)∧w'.cell? ⟨gw,7,none⟩=some (.string sc)∧w'.cell? ⟨gw,8,none⟩=some (.int .i64 wd)∧w'.cell? ⟨gw,9,none⟩=some (.int .i64 ht)∧w'.cell? ⟨gw,10,none⟩=some (.slice A n c)):=fun w' h=>by
        have hb:=HB1.out.call h
        exact ⟨hb.cell 0,hb.cell 1,hb.cell 2,hb.cell 3,hb.cell 4,hb.cell 5,hb.cell 6,hb.cell 7,hb.cell 8,hb.cell 9,hb.cell 10⟩
   refine wp_region_held_drew (S:=(fun w'=>w'.cell? ⟨gw,0,none⟩=some (.string nm)∧w'.cell? ⟨gw,1,none⟩=some (.string fr)∧w'.cell? ⟨gw,2,none⟩=some (.string tn)∧w'.cell? ⟨gw,3,none⟩=some (.int .i64 4)∧w'.cell? ⟨gw,4,none⟩=some (.int .i64 ln)∧w'.cell? ⟨gw,5,none⟩=some (.int .i64 up)∧w'.cell? ⟨gw,6,none⟩=some (.int .i64 dn)∧w'.cell? ⟨gw,7,none⟩=some (.string sc)∧w'.cell? ⟨gw,8,none⟩=some (.int .i64 wd)∧w'.cell? ⟨gw,9,none⟩=some (.int .i64 ht)∧w'.cell? ⟨gw,10,none⟩=some (.slice A n c))) (by kernel_rfl) ?_ (fun hHeld=>?_)
   ·exact KS.out _ ((bR _ w1).drew)
   refine tkD 0 (some 3) ?_
   refine tkD 1 (some 4) ?_
   refine wpAnyH_ready (rs:=[2]) (by kernel_rfl) (by simp) ?_
   refine AllReadyH.cons rfl (fun K hK=>?_) AllReadyH.nil
   go_simp
   go_at_call 98
   (with_reducible refine (S1.out _).mono ?_)
   rintro e w' ⟨rfl,rfl⟩
   go_wp2_with fail
   refine hK.out _ _ (KS.out _ ((bR _ w1).drew)) (fun hHeldl1=>?_)
   clear hK K hHeld
   (try simp only [Act.put,sA,sB,sC])
   refine tkD 3 (some 6) ?_
   refine tkD 4 (some 7) ?_
   refine tkD 5 (some 8) ?_
   refine tkD 6 (some 9) ?_
   refine wpAnyH_ready (rs:=[7]) (by kernel_rfl) (by simp) ?_
   refine AllReadyH.cons rfl (fun K hK=>?_) AllReadyH.nil
   go_simp
   go_at_call 98
   (with_reducible refine (S2.out _).mono ?_)
   rintro e w' ⟨rfl,rfl⟩
   go_wp2_with fail
   refine hK.out _ _ (KS.out _ ((bR _ w1).drew)) (fun hHeldl2=>?_)
   clear hK K hHeldl1
   (try simp only [Act.put,sA,sB,sC])
   refine tkD 8 (some 11) ?_
   refine tkD 9 (some 12) ?_
   refine tkD 10 (some 13) ?_
   refine tkD 11 (some 14) ?_
   refine tkD 12 (some 15) ?_
   refine wpAnyH_ready (rs:=[13]) (by kernel_rfl) (by simp) ?_
   refine AllReadyH.cons rfl (fun K hK=>?_) AllReadyH.nil
   go_simp
   go_at_call 98
   (with_reducible refine (S3.out _).mono ?_)
   rintro e w' ⟨rfl,rfl⟩
   go_wp2_with fail
   refine hK.out _ _ (KS.out _ ((bR _ w1).drew)) (fun hHeldl3=>?_)
   clear hK K hHeldl2
   (try simp only [Act.put,sA,sB,sC])
   refine tkD 14 (some 17) ?_
   refine tkD 15 (some 18) ?_
   refine tkD 16 (some 19) ?_
   refine tkD 17 (some 20) ?_
   refine tkD 18 (some 21) ?_
   refine tkD 19 (some 22) ?_
   refine tkD 20 (some 23) ?_
   refine tkD 21 (some 24) ?_
   refine tkD 22 (some 25) ?_
   refine tkD 23 (some 26) ?_
   refine tkD 24 (some 27) ?_
   refine tkD 25 (some 28) ?_
   refine wpAnyH_ready (rs:=[26]) (by kernel_rfl) (by simp) ?_
   refine AllReadyH.cons rfl (fun K hK=>?_) AllReadyH.nil
   go_simp
   refine hK.out _ _ (KS.out _ (((bR _ w1).alloc (nl _) _).drew)) (fun hHeldl4=>?_)
   clear hK K hHeldl3
   (try simp only [Act.put,sA,sB,sC])
   refine wpAnyH_ready (rs:=[27]) (by kernel_rfl) (by simp) ?_
   refine AllReadyH.cons rfl (fun K hK=>?_) AllReadyH.nil
   go_simp
   go_at_call 153
   with_reducible refine (SL.out _ _ _ ?_).mono ?_
   focus (exact zD9 (Blk.new _ _ _))
   rintro e w2 ⟨rfl,hb2⟩
   have hq2:Below w1.heap.size w1 w2:=((bR _ w1).drew).trans (((bR _ w1.drew).alloc (nl _) _).trans (hb2.mono (by simp)))
   clear hb2
   go_wp2_with fail
   refine hK.out _ _ (KS.out _ hq2) (fun hHeldl5=>?_)
   clear hK K hHeldl4
   (try simp only [Act.put,sA,sB,sC])
   refine tkD 28 (some 31) ?_
   refine tkD 29 (some 32) ?_
   refine tkD 30 (some 33) ?_
   refine tkD 31 (some 34) ?_
   refine tkD 32 (some 35) ?_
   refine wpAnyH_ready (rs:=[33]) (by kernel_rfl) (by simp) ?_
   refine AllReadyH.cons rfl (fun K hK=>?_) AllReadyH.nil
   go_simp
   go_at_call 157
   with_reducible refine (SP.out _).mono ?_
   rintro e w3 ⟨rfl,hb3⟩
   have hq3:Below w1.heap.size w1 w3:=hq2.trans (hb3.mono hq2.size)
   clear hb3
   go_wp2_with fail
   refine hK.out _ _ (KS.out _ hq3) (fun hHeldl6=>?_)
   clear hK K hHeldl5
   (try simp only [Act.put,sA,sB,sC])
   refine wpAnyH_ready (rs:=[34]) (by kernel_rfl) (by simp) ?_
   refine AllReadyH.cons rfl (fun K hK=>?_) AllReadyH.nil
   go_simp
   go_at_call 156
   with_reducible refine (SS.out _ ?_ ?_).mono ?_
   focus (exact HT.out.below (nl _) (HW1.out.trans (hq3.mono HW1.out.size)))
   focus (exact HTP.out _ (HW1.out.trans (hq3.mono HW1.out.size)))
   rintro e w4 ⟨rfl,hb4⟩
   have hq4:Below w1.heap.size w1 w4:=hq3.trans (hb4.mono hq3.size)
   clear hb4
   go_wp2_with fail
   refine hK.out _ _ (KS.out _ hq4) (fun hHeldl7=>?_)
   clear hK K hHeldl6
   (try simp only [Act.put,sA,sB,sC])
   refine tkD 35 (some 38) ?_
   refine tkD 36 (some 39) ?_
   refine wpAnyH_done (by kernel_rfl) ?_ _
   go_wp2_with fail
   go_ret
   exact ⟨rfl,zB8 HW1.out hq4⟩
  rw [zA2 ge] at ss
  obtain ⟨_,_,_,_,e1,_,_,e4,e2,e5,_⟩:=ge
  subst e1
  subst e4
  subst e2
  subst e5
  have SS:=LH ss
  have S1:=LH s1
  have S2:=LH s2
  have S3:=LH s3
  have HG:=LH hg
  have HVV:=LH hV
  have SM0:=LH sm
  have ST0:=LH st
  have SB0:=LH sp
  have HONE:=LH hone
  clear hV hg hz h0 hone hn2 s1 s2 s3 s4 sm sn sw sv st sp ss spl k1 k2 k3
  go_enter Tryz.func114,Tryz.ntmps114
  go_upto_region 1 with fail
  have HB1:=LH (Blk.new w 32 #[.string nm,.string fr,.string tn,.int .i64 4,.int .i64 0,.int .i64 up,.int .i64 dn,.string ⟨#[]⟩,.int .i64 0,.int .i64 0,.slice A n c])
  have HW1:Hid (Below w.heap.size w (w.alloc (Obj.cells #[.string nm,.string fr,.string tn,.int .i64 4,.int .i64 0,.int .i64 up,.int .i64 dn,.string ⟨#[]⟩,.int .i64 0,.int .i64 0,.slice A n c] 32))):=(bR _ w).alloc (nl _) _
  have HL1:Hid (w.heap.size<(w.alloc (Obj.cells #[.string nm,.string fr,.string tn,.int .i64 4,.int .i64 0,.int .i64 up,.int .i64 dn,.string ⟨#[]⟩,.int .i64 0,.int .i64 0,.slice A n c] 32)).heap.size):=HB1.out.lt
  generalize w.alloc (Obj.cells #[.string nm,.string fr,.string tn,.int .i64 4,.int .i64 0,.int .i64 up,.int .i64 dn,.string ⟨#[]⟩,.int .i64 0,.int .i64 0,.slice A n c] 32)=w1 at HB1 HW1 HL1⊢
  generalize hgw:w.heap.size=gw at HB1 HL1⊢
  have KS:Hid (∀w',Below w1.heap.size w1 w'→w'.cell? ⟨gw,0,none⟩=some (.string nm)∧w'.cell? ⟨gw,1,none⟩=some (.string fr)∧w'.cell? ⟨gw,2,none⟩=some (.string tn)∧w'.cell? ⟨gw,3,none⟩=some (.int .i64 4)∧w'.cell? ⟨gw,4,none⟩=some (.int .i64 0)∧w'.cell? ⟨gw,5,none⟩=some (.int .i64 up)∧w'.cell? ⟨gw,6,none⟩=some (.int .i64 dn)∧w'.cell? ⟨gw,7,none⟩=some (.string ⟨#[]⟩)∧w'.cell? ⟨gw,8,none⟩=some (.int .i64 0)∧w'.cell? ⟨gw,9,none⟩=some (.int .i64 0)∧w'.cell? ⟨gw,10,none⟩=some (.slice A n c)):=fun w' h=>by
   have hb:=HB1.out.call h
   exact ⟨hb.cell 0,hb.cell 1,hb.cell 2,hb.cell 3,hb.cell 4,hb.cell 5,hb.cell 6,hb.cell 7,hb.cell 8,hb.cell 9,hb.cell 10⟩
  refine wp_region_held_drew (S:=(fun w'=>w'.cell? ⟨gw,0,none⟩=some (.string nm)∧w'.cell? ⟨gw,1,none⟩=some (.string fr)∧w'.cell? ⟨gw,2,none⟩=some (.string tn)∧w'.cell? ⟨gw,3,none⟩=some (.int .i64 4)∧w'.cell? ⟨gw,4,none⟩=some (.int .i64 0)∧w'.cell? ⟨gw,5,none⟩=some (.int .i64 up)∧w'.cell? ⟨gw,6,none⟩=some (.int .i64 dn)∧w'.cell? ⟨gw,7,none⟩=some (.string ⟨#[]⟩)∧w'.cell? ⟨gw,8,none⟩=some (.int .i64 0)∧w'.cell? ⟨gw,9,none⟩=some (.int .i64 0)∧w'.cell? ⟨gw,10,none⟩=some (.slice A n c))) (by kernel_rfl) ?_ (fun hHeld=>?_)
  ·exact KS.out _ ((bR _ w1).drew)
  refine tkD 0 (some 3) ?_
  refine tkD 1 (some 4) ?_
  refine wpAnyH_ready (rs:=[2]) (by kernel_rfl) (by simp) ?_
  refine AllReadyH.cons rfl (fun K hK=>?_) AllReadyH.nil
  go_simp
  go_at_call 98
  (with_reducible refine (S1.out _).mono ?_)
  rintro e w' ⟨rfl,rfl⟩
  go_wp2_with fail
  refine hK.out _ _ (KS.out _ ((bR _ w1).drew)) (fun hHeldm1=>?_)
  clear hK K hHeld
  (try simp only [Act.put,sA,sB,sC])
  refine tkD 3 (some 6) ?_
  refine tkD 4 (some 7) ?_
  refine tkD 5 (some 8) ?_
  refine tkD 6 (some 9) ?_
  refine wpAnyH_ready (rs:=[7]) (by kernel_rfl) (by simp) ?_
  refine AllReadyH.cons rfl (fun K hK=>?_) AllReadyH.nil
  go_simp
  go_at_call 98
  (with_reducible refine (S2.out _).mono ?_)
  rintro e w' ⟨rfl,rfl⟩
  go_wp2_with fail
  refine hK.out _ _ (KS.out _ ((bR _ w1).drew)) (fun hHeldm2=>?_)
  clear hK K hHeldm1
  (try simp only [Act.put,sA,sB,sC])
  refine tkD 8 (some 11) ?_
  refine tkD 9 (some 12) ?_
  refine tkD 10 (some 13) ?_
  refine tkD 11 (some 14) ?_
  refine tkD 12 (some 15) ?_
  refine wpAnyH_ready (rs:=[13]) (by kernel_rfl) (by simp) ?_
  refine AllReadyH.cons rfl (fun K hK=>?_) AllReadyH.nil
  go_simp
  go_at_call 98
  (with_reducible refine (S3.out _).mono ?_)
  rintro e w' ⟨rfl,rfl⟩
  go_wp2_with fail
  refine hK.out _ _ (KS.out _ ((bR _ w1).drew)) (fun hHeldm3=>?_)
  clear hK K hHeldm2
  (try simp only [Act.put,sA,sB,sC])
  refine tkD 14 (some 17) ?_
  refine tkD 15 (some 18) ?_
  refine tkD 16 (some 19) ?_
  refine tkD 17 (some 20) ?_
  refine tkD 18 (some 21) ?_
  refine tkD 19 (some 22) ?_
  refine tkD 20 (some 23) ?_
  refine tkD 21 (some 24) ?_
  refine tkD 22 (some 25) ?_
  refine tkD 23 (some 26) ?_
  refine tkD 24 (some 27) ?_
  refine tkD 25 (some 28) ?_
  refine wpAnyH_ready (rs:=[26]) (by kernel_rfl) (by simp) ?_
  refine AllReadyH.cons rfl (fun K hK=>?_) AllReadyH.nil
  go_simp
  refine hK.out _ _ (KS.out _ (((bR _ w1).alloc (nl _) _).drew)) (fun hHeldm4=>?_)
  clear hK K hHeldm3
  (try simp only [Act.put,sA,sB,sC])
  refine wpAnyH_ready (rs:=[27]) (by kernel_rfl) (by simp) ?_
  refine AllReadyH.cons rfl (fun K hK=>?_) AllReadyH.nil
  go_simp
  go_at_call 153
  with_reducible refine (SL.out _ _ _ ?_).mono ?_
  focus (exact zD9 (Blk.new _ _ _))
  rintro e w2 ⟨rfl,hb2⟩
  have hq2:Below w1.heap.size w1 w2:=((bR _ w1).drew).trans (((bR _ w1.drew).alloc (nl _) _).trans (hb2.mono (by simp)))
  clear hb2
  go_wp2_with fail
  refine hK.out _ _ (KS.out _ hq2) (fun hHeldm5=>?_)
  clear hK K hHeldm4
  (try simp only [Act.put,sA,sB,sC])
  refine tkD 28 (some 31) ?_
  refine tkD 29 (some 32) ?_
  refine tkD 30 (some 33) ?_
  refine tkD 31 (some 34) ?_
  refine tkD 32 (some 35) ?_
  refine wpAnyH_ready (rs:=[33]) (by kernel_rfl) (by simp) ?_
  refine AllReadyH.cons rfl (fun K hK=>?_) AllReadyH.nil
  go_simp
  go_at_call 157
  with_reducible refine (SP.out _).mono ?_
  rintro e w3 ⟨rfl,hb3⟩
  have hq3:Below w1.heap.size w1 w3:=hq2.trans (hb3.mono hq2.size)
  clear hb3
  go_wp2_with fail
  refine hK.out _ _ (KS.out _ hq3) (fun hHeldm6=>?_)
  clear hK K hHeldm5
  (try simp only [Act.put,sA,sB,sC])
  refine wpAnyH_ready (rs:=[34]) (by kernel_rfl) (by simp) ?_
  refine AllReadyH.cons rfl (fun K hK=>?_) AllReadyH.nil
  go_simp
  go_at_call 156
  with_reducible refine (SS.out _ ?_ ?_).mono ?_
  focus (exact HT.out.below (nl _) (HW1.out.trans (hq3.mono HW1.out.size)))
  focus (exact HTP.out _ (HW1.out.trans (hq3.mono HW1.out.size)))
  rintro e w4 ⟨rfl,hb4⟩
  have hq4:Below w1.heap.size w1 w4:=hq3.trans (hb4.mono hq3.size)
  clear hb4
  go_wp2_with fail
  refine hK.out _ _ (KS.out _ hq4) (fun hHeldm7=>?_)
  clear hK K hHeldm6
  (try simp only [Act.put,sA,sB,sC])
  refine tkD 35 (some 38) ?_
  refine tkD 36 (some 39) ?_
  refine wpAnyH_done (by kernel_rfl) ?_ _
  have HQ4:Hid (Below w.heap.size w w4):=zB8 HW1.out hq4
  have KC4:=LH (HB1.out.call hq4)
  obtain ⟨c3,c4,c5,c6,c7,c8,c9,c10⟩:=lk_all KC4.out
  clear hq2 hq3 hq4 KS
  by_cases q1:lvP dn
  case neg=>
   have SM:=LH (SM0.out false ⟨fun h=>(by cases h),fun h=>absurd ((HONE.out dn).1 h) q1⟩)
   obtain rfl:V=false:=by rw [HVV.out];exact zA0 fun h=>q1 (HG.out.1 h).1
   clear q1
   go_wp2_with (first
        |(go_at_call 153
          with_reducible refine (SM.out _ _ _ ?_).mono ?_
          focus (exact zD9 (Blk.new _ _ _))
          rintro e w5 ⟨rfl,hb5⟩
          have HQ5:Hid (Below w.heap.size w w5):=zB8 (HQ4.out.alloc HQ4.out.size _) hb5
          have KC5:=LH (KC4.out.call (((bR _ w4).alloc (nl _) _).trans (hb5.mono (by simp))))
          obtain ⟨c5,c6,c7,c10⟩:=zI2 KC5.out
          clear hb5))
   go_ret
   first
   |exact ⟨rfl,by first |exact HQ7.out |exact HQ6.out |exact HQ5.out |exact HQ4.out⟩
   |(subst hgw;exact ⟨rfl,by first |exact HQ7.out |exact HQ6.out |exact HQ5.out |exact HQ4.out⟩)
  have SM:=LH (SM0.out true ⟨fun _=>(HONE.out dn).2 q1,fun _=>rfl⟩)
  by_cases q2:dn<up
  case neg=>
   have t2:decide (dn<up)=false:=dF q2
   obtain rfl:V=false:=by rw [HVV.out];exact zA0 fun h=>(by rcases (HG.out.1 h).2 with h |h |h |h;exact absurd h.1 (by omega);exact absurd h.1 (by omega);exact absurd h.1 (by omega);exact q2 h.2.2.1)
   clear q1 q2
   go_wp2_with (first
        |(go_at_call 153
          with_reducible refine (SM.out _ _ _ ?_).mono ?_
          focus (exact zD9 (Blk.new _ _ _))
          rintro e w5 ⟨rfl,hb5⟩
          have HQ5:Hid (Below w.heap.size w w5):=zB8 (HQ4.out.alloc HQ4.out.size _) hb5
          have KC5:=LH (KC4.out.call (((bR _ w4).alloc (nl _) _).trans (hb5.mono (by simp))))
          obtain ⟨c5,c6,c7,c10⟩:=zI2 KC5.out
          clear hb5))
   go_ret
   first
   |exact ⟨rfl,by first |exact HQ7.out |exact HQ6.out |exact HQ5.out |exact HQ4.out⟩
   |(subst hgw;exact ⟨rfl,by first |exact HQ7.out |exact HQ6.out |exact HQ5.out |exact HQ4.out⟩)
  have t2:decide (dn<up)=true:=dU q2
  by_cases q3:TabOK n X Y
  case neg=>
   have t0:=ST0.out
   rw [zG2 q3] at t0
   have ST:=LH t0
   clear t0
   obtain rfl:V=false:=by rw [HVV.out];exact zA0 fun h=>(by rcases (HG.out.1 h).2 with h |h |h |h;exact absurd h.1 (by omega);exact absurd h.1 (by omega);exact absurd h.1 (by omega);exact q3 h.2.2.2.2.2.2.1)
   clear q1 q2 q3
   go_wp2_with (first
        |(go_at_call 153
          with_reducible refine (SM.out _ _ _ ?_).mono ?_
          focus (exact zD9 (Blk.new _ _ _))
          rintro e w5 ⟨rfl,hb5⟩
          have HQ5:Hid (Below w.heap.size w w5):=zB8 (HQ4.out.alloc HQ4.out.size _) hb5
          have KC5:=LH (KC4.out.call (((bR _ w4).alloc (nl _) _).trans (hb5.mono (by simp))))
          obtain ⟨c5,c6,c7,c10⟩:=zI2 KC5.out
          clear hb5)
        |(go_at_call 158
          with_reducible refine (ST.out _ ?_).mono ?_
          focus (exact HT.out.below (nl _) HQ5.out)
          rintro e w6 ⟨rfl,hb6⟩
          have HQ6:Hid (Below w.heap.size w w6):=zB8 HQ5.out hb6
          have KC6:=LH (KC5.out.call hb6)
          obtain ⟨c5,c6,c7,c10⟩:=zI2 KC6.out
          clear hb6))
   go_ret
   first
   |exact ⟨rfl,by first |exact HQ7.out |exact HQ6.out |exact HQ5.out |exact HQ4.out⟩
   |(subst hgw;exact ⟨rfl,by first |exact HQ7.out |exact HQ6.out |exact HQ5.out |exact HQ4.out⟩)
  have t0:=ST0.out
  rw [zJ4 q3] at t0
  have ST:=LH t0
  clear t0
  by_cases q4:∃j,j<n∧(fun j=>decide (¬((0≤X j∧X j≤4194304)∧(0≤Y j∧Y j≤1099511627776)))) j=true
  case pos=>
   have SP2:=LH (SB0.out true ⟨fun _=>q4,fun _=>rfl⟩)
   have q4':¬zT3 n X Y:=by
        obtain ⟨j,hj,h⟩:=q4
        exact fun hp=>(of_decide_eq_true h) (hp.2 j hj)
   obtain rfl:V=false:=by rw [HVV.out];exact zA0 fun h=>(by rcases (HG.out.1 h).2 with h |h |h |h;exact absurd h.1 (by omega);exact absurd h.1 (by omega);exact absurd h.1 (by omega);exact q4' h.2.2.2.2.2.2)
   clear q1 q2 q3 q4 q4'
   go_wp2_with (first
        |(go_at_call 153
          with_reducible refine (SM.out _ _ _ ?_).mono ?_
          focus (exact zD9 (Blk.new _ _ _))
          rintro e w5 ⟨rfl,hb5⟩
          have HQ5:Hid (Below w.heap.size w w5):=zB8 (HQ4.out.alloc HQ4.out.size _) hb5
          have KC5:=LH (KC4.out.call (((bR _ w4).alloc (nl _) _).trans (hb5.mono (by simp))))
          obtain ⟨c5,c6,c7,c10⟩:=zI2 KC5.out
          clear hb5)
        |(go_at_call 158
          with_reducible refine (ST.out _ ?_).mono ?_
          focus (exact HT.out.below (nl _) HQ5.out)
          rintro e w6 ⟨rfl,hb6⟩
          have HQ6:Hid (Below w.heap.size w w6):=zB8 HQ5.out hb6
          have KC6:=LH (KC5.out.call hb6)
          obtain ⟨c5,c6,c7,c10⟩:=zI2 KC6.out
          clear hb6)
        |(go_at_call 159
          with_reducible refine (SP2.out _ ?_).mono ?_
          focus (exact HT.out.below (nl _) HQ6.out)
          rintro e w7 ⟨rfl,hb7⟩
          have HQ7:Hid (Below w.heap.size w w7):=zB8 HQ6.out hb7
          clear hb7))
   go_ret
   first
   |exact ⟨rfl,by first |exact HQ7.out |exact HQ6.out |exact HQ5.out |exact HQ4.out⟩
   |(subst hgw;exact ⟨rfl,by first |exact HQ7.out |exact HQ6.out |exact HQ5.out |exact HQ4.out⟩)
  have SP2:=LH (SB0.out false ⟨fun h=>(by cases h),fun h=>absurd h q4⟩)
  have q5:zT3 n X Y:=⟨q3,fun j hj=>Classical.byContradiction fun h=>q4 ⟨j,hj,dU h⟩⟩
  obtain rfl:V=true:=by rw [HVV.out];exact zA2 (HG.out.2 ⟨q1,.inr (.inr (.inr ⟨by trivial,by trivial,q2,by trivial,by trivial,by trivial,q5⟩))⟩)
  clear q1 q2 q3 q4 q5
  go_wp2_with (first
   |(go_at_call 153
     with_reducible refine (SM.out _ _ _ ?_).mono ?_
     focus (exact zD9 (Blk.new _ _ _))
     rintro e w5 ⟨rfl,hb5⟩
     have HQ5:Hid (Below w.heap.size w w5):=zB8 (HQ4.out.alloc HQ4.out.size _) hb5
     have KC5:=LH (KC4.out.call (((bR _ w4).alloc (nl _) _).trans (hb5.mono (by simp))))
     obtain ⟨c5,c6,c7,c10⟩:=zI2 KC5.out
     clear hb5)
   |(go_at_call 158
     with_reducible refine (ST.out _ ?_).mono ?_
     focus (exact HT.out.below (nl _) HQ5.out)
     rintro e w6 ⟨rfl,hb6⟩
     have HQ6:Hid (Below w.heap.size w w6):=zB8 HQ5.out hb6
     have KC6:=LH (KC5.out.call hb6)
     obtain ⟨c5,c6,c7,c10⟩:=zI2 KC6.out
     clear hb6)
   |(go_at_call 159
     with_reducible refine (SP2.out _ ?_).mono ?_
     focus (exact HT.out.below (nl _) HQ6.out)
     rintro e w7 ⟨rfl,hb7⟩
     have HQ7:Hid (Below w.heap.size w w7):=zB8 HQ6.out hb7
     clear hb7))
  go_ret
  first
  |exact ⟨rfl,by first |exact HQ7.out |exact HQ6.out |exact HQ5.out |exact HQ4.out⟩
  |(subst hgw;exact ⟨rfl,by first |exact HQ7.out |exact HQ6.out |exact HQ5.out |exact HQ4.out⟩)
 have v4:(kd==4)=false:=by simpa using k4
 have spl:=fun w=>nplain0 nm fr tn kd ln up dn sc wd ht A n c k1 k2 k3 k4 w
 have SP:=LH spl
 have HTP:Hid (∀w',Below w.heap.size w w'→TabIn w' none 0 (fun _=>0) (fun _=>0)):=fun w' h=>⟨by omega,.inl rfl⟩
 have ss:=fun w hA hB=>nsame nm fr tn kd ln up dn sc wd ht A n c X Y nm fr tn kd 0 up 0 ⟨#[]⟩ 0 0 none 0 0 (fun _=>0) (fun _=>0) w hA hB
 by_cases ge:lkEq nm fr tn kd ln up dn sc wd ht n X Y nm fr tn kd 0 up 0 ⟨#[]⟩ 0 0 0 (fun _=>0) (fun _=>0)
 case neg=>
  have hVF:V=false:=by rw [hV];exact zA0 fun h=>(by rcases (hg.1 h).2 with h |h |h |h;exact k1 h.1;exact k2 h.1;exact k3 h.1;exact k4 h.1)
  rw [zA0 ge] at ss
  subst hVF
  have S1:=LH s1
  have S2:=LH s2
  have S3:=LH s3
  have SS:=LH ss
  clear ge hV hg hz h0 hone hn2 s1 s2 s3 s4 sm sn sw sv st sp ss spl k1 k2 k3 k4
  go_enter Tryz.func114,Tryz.ntmps114
  go_upto_region 1 with fail
  have HB1:=LH (Blk.new w 32 #[.string nm,.string fr,.string tn,.int .i64 kd,.int .i64 ln,.int .i64 up,.int .i64 dn,.string sc,.int .i64 wd,.int .i64 ht,.slice A n c])
  have HW1:Hid (Below w.heap.size w (w.alloc (Obj.cells #[.string nm,.string fr,.string tn,.int .i64 kd,.int .i64 ln,.int .i64 up,.int .i64 dn,.string sc,.int .i64 wd,.int .i64 ht,.slice A n c] 32))):=(bR _ w).alloc (nl _) _
  have HL1:Hid (w.heap.size<(w.alloc (Obj.cells #[.string nm,.string fr,.string tn,.int .i64 kd,.int .i64 ln,.int .i64 up,.int .i64 dn,.string sc,.int .i64 wd,.int .i64 ht,.slice A n c] 32)).heap.size):=HB1.out.lt
  generalize w.alloc (Obj.cells #[.string nm,.string fr,.string tn,.int .i64 kd,.int .i64 ln,.int .i64 up,.int .i64 dn,.string sc,.int .i64 wd,.int .i64 ht,.slice A n c] 32)=w1 at HB1 HW1 HL1⊢
  generalize hgw:w.heap.size=gw at HB1 HL1⊢
  have KS:Hid (∀w',Below w1.heap.size w1 w'→w'.cell? ⟨gw,0,none⟩=some (.string nm)∧w'.cell? ⟨gw,1,none⟩=some (.string fr)∧w'.cell? ⟨gw,2,none⟩=some (.string tn)∧w'.cell? ⟨gw,3,none⟩=some (.int .i64 kd)∧w'.cell? ⟨gw,4,none⟩=some (.int .i64 ln)∧w'.cell? ⟨gw,5,none⟩=some (.int .i64 up)∧w'.cell? ⟨gw,6,none⟩=some (.int .i64 dn)∧w'.cell? ⟨gw,7,none⟩=some (.string sc)∧w'.cell? ⟨gw,8,none⟩=some (.int .i64 wd)∧w'.cell? ⟨gw,9,none⟩=some (.int .i64 ht)∧w'.cell? ⟨gw,10,none⟩=some (.slice A n c)):=fun w' h=>by
   have hb:=HB1.out.call h
   exact ⟨hb.cell 0,hb.cell 1,hb.cell 2,hb.cell 3,hb.cell 4,hb.cell 5,hb.cell 6,hb.cell 7,hb.cell 8,hb.cell 9,hb.cell 10⟩
  refine wp_region_held_drew (S:=(fun w'=>w'.cell? ⟨gw,0,none⟩=some (.string nm)∧w'.cell? ⟨gw,1,none⟩=some (.string fr)∧w'.cell? ⟨gw,2,none⟩=some (.string tn)∧w'.cell? ⟨gw,3,none⟩=some (.int .i64 kd)∧w'.cell? ⟨gw,4,none⟩=some (.int .i64 ln)∧w'.cell? ⟨gw,5,none⟩=some (.int .i64 up)∧w'.cell? ⟨gw,6,none⟩=some (.int .i64 dn)∧w'.cell? ⟨gw,7,none⟩=some (.string sc)∧w'.cell? ⟨gw,8,none⟩=some (.int .i64 wd)∧w'.cell? ⟨gw,9,none⟩=some (.int .i64 ht)∧w'.cell? ⟨gw,10,none⟩=some (.slice A n c))) (by kernel_rfl) ?_ (fun hHeld=>?_)
  ·exact KS.out _ ((bR _ w1).drew)
  refine tkD 0 (some 3) ?_
  refine tkD 1 (some 4) ?_
  refine wpAnyH_ready (rs:=[2]) (by kernel_rfl) (by simp) ?_
  refine AllReadyH.cons rfl (fun K hK=>?_) AllReadyH.nil
  go_simp
  go_at_call 98
  (with_reducible refine (S1.out _).mono ?_)
  rintro e w' ⟨rfl,rfl⟩
  go_wp2_with fail
  refine hK.out _ _ (KS.out _ ((bR _ w1).drew)) (fun hHeldn1=>?_)
  clear hK K hHeld
  (try simp only [Act.put,sA,sB,sC])
  refine tkD 3 (some 6) ?_
  refine tkD 4 (some 7) ?_
  refine tkD 5 (some 8) ?_
  refine tkD 6 (some 9) ?_
  refine wpAnyH_ready (rs:=[7]) (by kernel_rfl) (by simp) ?_
  refine AllReadyH.cons rfl (fun K hK=>?_) AllReadyH.nil
  go_simp
  go_at_call 98
  (with_reducible refine (S2.out _).mono ?_)
  rintro e w' ⟨rfl,rfl⟩
  go_wp2_with fail
  refine hK.out _ _ (KS.out _ ((bR _ w1).drew)) (fun hHeldn2=>?_)
  clear hK K hHeldn1
  (try simp only [Act.put,sA,sB,sC])
  refine tkD 8 (some 11) ?_
  refine tkD 9 (some 12) ?_
  refine tkD 10 (some 13) ?_
  refine tkD 11 (some 14) ?_
  refine tkD 12 (some 15) ?_
  refine wpAnyH_ready (rs:=[13]) (by kernel_rfl) (by simp) ?_
  refine AllReadyH.cons rfl (fun K hK=>?_) AllReadyH.nil
  go_simp
  go_at_call 98
  (with_reducible refine (S3.out _).mono ?_)
  rintro e w' ⟨rfl,rfl⟩
  go_wp2_with fail
  refine hK.out _ _ (KS.out _ ((bR _ w1).drew)) (fun hHeldn3=>?_)
  clear hK K hHeldn2
  (try simp only [Act.put,sA,sB,sC])
  refine tkD 14 (some 17) ?_
  refine tkD 15 (some 18) ?_
  refine tkD 16 (some 19) ?_
  refine tkD 17 (some 20) ?_
  refine tkD 18 (some 21) ?_
  refine tkD 19 (some 22) ?_
  refine tkD 20 (some 23) ?_
  refine tkD 21 (some 24) ?_
  refine tkD 22 (some 25) ?_
  refine tkD 23 (some 26) ?_
  refine tkD 24 (some 27) ?_
  refine tkD 25 (some 28) ?_
  refine wpAnyH_ready (rs:=[26]) (by kernel_rfl) (by simp) ?_
  refine AllReadyH.cons rfl (fun K hK=>?_) AllReadyH.nil
  go_simp
  refine hK.out _ _ (KS.out _ (((bR _ w1).alloc (nl _) _).drew)) (fun hHeldn4=>?_)
  clear hK K hHeldn3
  (try simp only [Act.put,sA,sB,sC])
  refine wpAnyH_ready (rs:=[27]) (by kernel_rfl) (by simp) ?_
  refine AllReadyH.cons rfl (fun K hK=>?_) AllReadyH.nil
  go_simp
  go_at_call 153
  with_reducible refine (SL.out _ _ _ ?_).mono ?_
  focus (exact zD9 (Blk.new _ _ _))
  rintro e w2 ⟨rfl,hb2⟩
  have hq2:Below w1.heap.size w1 w2:=((bR _ w1).drew).trans (((bR _ w1.drew).alloc (nl _) _).trans (hb2.mono (by simp)))
  clear hb2
  go_wp2_with fail
  refine hK.out _ _ (KS.out _ hq2) (fun hHeldn5=>?_)
  clear hK K hHeldn4
  (try simp only [Act.put,sA,sB,sC])
  refine tkD 28 (some 31) ?_
  refine tkD 29 (some 32) ?_
  refine tkD 30 (some 33) ?_
  refine tkD 31 (some 34) ?_
  refine tkD 32 (some 35) ?_
  refine wpAnyH_ready (rs:=[33]) (by kernel_rfl) (by simp) ?_
  refine AllReadyH.cons rfl (fun K hK=>?_) AllReadyH.nil
  go_simp
  go_at_call 157
  with_reducible refine (SP.out _).mono ?_
  rintro e w3 ⟨rfl,hb3⟩
  have hq3:Below w1.heap.size w1 w3:=hq2.trans (hb3.mono hq2.size)
  clear hb3
  go_wp2_with fail
  refine hK.out _ _ (KS.out _ hq3) (fun hHeldn6=>?_)
  clear hK K hHeldn5
  (try simp only [Act.put,sA,sB,sC])
  refine wpAnyH_ready (rs:=[34]) (by kernel_rfl) (by simp) ?_
  refine AllReadyH.cons rfl (fun K hK=>?_) AllReadyH.nil
  go_simp
  go_at_call 156
  with_reducible refine (SS.out _ ?_ ?_).mono ?_
  focus (exact HT.out.below (nl _) (HW1.out.trans (hq3.mono HW1.out.size)))
  focus (exact HTP.out _ (HW1.out.trans (hq3.mono HW1.out.size)))
  rintro e w4 ⟨rfl,hb4⟩
  have hq4:Below w1.heap.size w1 w4:=hq3.trans (hb4.mono hq3.size)
  clear hb4
  go_wp2_with fail
  refine hK.out _ _ (KS.out _ hq4) (fun hHeldn7=>?_)
  clear hK K hHeldn6
  (try simp only [Act.put,sA,sB,sC])
  refine tkD 35 (some 38) ?_
  refine tkD 36 (some 39) ?_
  refine wpAnyH_done (by kernel_rfl) ?_ _
  go_wp2_with fail
  go_ret
  exact ⟨rfl,zB8 HW1.out hq4⟩
 rw [zA2 ge] at ss
 obtain ⟨_,_,_,_,e1,_,e2,e4,e5,e6,e3⟩:=ge
 subst e1
 subst e2
 subst e4
 subst e5
 subst e6
 obtain rfl:=e3.1
 clear e3
 have SS:=LH ss
 have S1:=LH s1
 have S2:=LH s2
 have S3:=LH s3
 have HVF:=LH (show V=false by rw [hV];exact zA0 fun h=>(by rcases (hg.1 h).2 with h |h |h |h;exact k1 h.1;exact k2 h.1;exact k3 h.1;exact k4 h.1))
 clear hV hg hz h0 hone hn2 s1 s2 s3 s4 sm sn sw sv st sp ss spl k1 k2 k3 k4
 go_enter Tryz.func114,Tryz.ntmps114
 go_upto_region 1 with fail
 have HB1:=LH (Blk.new w 32 #[.string nm,.string fr,.string tn,.int .i64 kd,.int .i64 0,.int .i64 up,.int .i64 0,.string ⟨#[]⟩,.int .i64 0,.int .i64 0,.slice A 0 c])
 have HW1:Hid (Below w.heap.size w (w.alloc (Obj.cells #[.string nm,.string fr,.string tn,.int .i64 kd,.int .i64 0,.int .i64 up,.int .i64 0,.string ⟨#[]⟩,.int .i64 0,.int .i64 0,.slice A 0 c] 32))):=(bR _ w).alloc (nl _) _
 have HL1:Hid (w.heap.size<(w.alloc (Obj.cells #[.string nm,.string fr,.string tn,.int .i64 kd,.int .i64 0,.int .i64 up,.int .i64 0,.string ⟨#[]⟩,.int .i64 0,.int .i64 0,.slice A 0 c] 32)).heap.size):=HB1.out.lt
 generalize w.alloc (Obj.cells #[.string nm,.string fr,.string tn,.int .i64 kd,.int .i64 0,.int .i64 up,.int .i64 0,.string ⟨#[]⟩,.int .i64 0,.int .i64 0,.slice A 0 c] 32)=w1 at HB1 HW1 HL1⊢
 generalize hgw:w.heap.size=gw at HB1 HL1⊢
 have KS:Hid (∀w',Below w1.heap.size w1 w'→w'.cell? ⟨gw,0,none⟩=some (.string nm)∧w'.cell? ⟨gw,1,none⟩=some (.string fr)∧w'.cell? ⟨gw,2,none⟩=some (.string tn)∧w'.cell? ⟨gw,3,none⟩=some (.int .i64 kd)∧w'.cell? ⟨gw,4,none⟩=some (.int .i64 0)∧w'.cell? ⟨gw,5,none⟩=some (.int .i64 up)∧w'.cell? ⟨gw,6,none⟩=some (.int .i64 0)∧w'.cell? ⟨gw,7,none⟩=some (.string ⟨#[]⟩)∧w'.cell? ⟨gw,8,none⟩=some (.int .i64 0)∧w'.cell? ⟨gw,9,none⟩=some (.int .i64 0)∧w'.cell? ⟨gw,10,none⟩=some (.slice A 0 c)):=fun w' h=>by
  have hb:=HB1.out.call h
  exact ⟨hb.cell 0,hb.cell 1,hb.cell 2,hb.cell 3,hb.cell 4,hb.cell 5,hb.cell 6,hb.cell 7,hb.cell 8,hb.cell 9,hb.cell 10⟩
 refine wp_region_held_drew (S:=(fun w'=>w'.cell? ⟨gw,0,none⟩=some (.string nm)∧w'.cell? ⟨gw,1,none⟩=some (.string fr)∧w'.cell? ⟨gw,2,none⟩=some (.string tn)∧w'.cell? ⟨gw,3,none⟩=some (.int .i64 kd)∧w'.cell? ⟨gw,4,none⟩=some (.int .i64 0)∧w'.cell? ⟨gw,5,none⟩=some (.int .i64 up)∧w'.cell? ⟨gw,6,none⟩=some (.int .i64 0)∧w'.cell? ⟨gw,7,none⟩=some (.string ⟨#[]⟩)∧w'.cell? ⟨gw,8,none⟩=some (.int .i64 0)∧w'.cell? ⟨gw,9,none⟩=some (.int .i64 0)∧w'.cell? ⟨gw,10,none⟩=some (.slice A 0 c))) (by kernel_rfl) ?_ (fun hHeld=>?_)
 ·exact KS.out _ ((bR _ w1).drew)
 refine tkD 0 (some 3) ?_
 refine tkD 1 (some 4) ?_
 refine wpAnyH_ready (rs:=[2]) (by kernel_rfl) (by simp) ?_
 refine AllReadyH.cons rfl (fun K hK=>?_) AllReadyH.nil
 go_simp
 go_at_call 98
 (with_reducible refine (S1.out _).mono ?_)
 rintro e w' ⟨rfl,rfl⟩
 go_wp2_with fail
 refine hK.out _ _ (KS.out _ ((bR _ w1).drew)) (fun hHeldo1=>?_)
 clear hK K hHeld
 (try simp only [Act.put,sA,sB,sC])
 refine tkD 3 (some 6) ?_
 refine tkD 4 (some 7) ?_
 refine tkD 5 (some 8) ?_
 refine tkD 6 (some 9) ?_
 refine wpAnyH_ready (rs:=[7]) (by kernel_rfl) (by simp) ?_
 refine AllReadyH.cons rfl (fun K hK=>?_) AllReadyH.nil
 go_simp
 go_at_call 98
 (with_reducible refine (S2.out _).mono ?_)
 rintro e w' ⟨rfl,rfl⟩
 go_wp2_with fail
 refine hK.out _ _ (KS.out _ ((bR _ w1).drew)) (fun hHeldo2=>?_)
 clear hK K hHeldo1
 (try simp only [Act.put,sA,sB,sC])
 refine tkD 8 (some 11) ?_
 refine tkD 9 (some 12) ?_
 refine tkD 10 (some 13) ?_
 refine tkD 11 (some 14) ?_
 refine tkD 12 (some 15) ?_
 refine wpAnyH_ready (rs:=[13]) (by kernel_rfl) (by simp) ?_
 refine AllReadyH.cons rfl (fun K hK=>?_) AllReadyH.nil
 go_simp
 go_at_call 98
 (with_reducible refine (S3.out _).mono ?_)
 rintro e w' ⟨rfl,rfl⟩
 go_wp2_with fail
 refine hK.out _ _ (KS.out _ ((bR _ w1).drew)) (fun hHeldo3=>?_)
 clear hK K hHeldo2
 (try simp only [Act.put,sA,sB,sC])
 refine tkD 14 (some 17) ?_
 refine tkD 15 (some 18) ?_
 refine tkD 16 (some 19) ?_
 refine tkD 17 (some 20) ?_
 refine tkD 18 (some 21) ?_
 refine tkD 19 (some 22) ?_
 refine tkD 20 (some 23) ?_
 refine tkD 21 (some 24) ?_
 refine tkD 22 (some 25) ?_
 refine tkD 23 (some 26) ?_
 refine tkD 24 (some 27) ?_
 refine tkD 25 (some 28) ?_
 refine wpAnyH_ready (rs:=[26]) (by kernel_rfl) (by simp) ?_
 refine AllReadyH.cons rfl (fun K hK=>?_) AllReadyH.nil
 go_simp
 refine hK.out _ _ (KS.out _ (((bR _ w1).alloc (nl _) _).drew)) (fun hHeldo4=>?_)
 clear hK K hHeldo3
 (try simp only [Act.put,sA,sB,sC])
 refine wpAnyH_ready (rs:=[27]) (by kernel_rfl) (by simp) ?_
 refine AllReadyH.cons rfl (fun K hK=>?_) AllReadyH.nil
 go_simp
 go_at_call 153
 with_reducible refine (SL.out _ _ _ ?_).mono ?_
 focus (exact zD9 (Blk.new _ _ _))
 rintro e w2 ⟨rfl,hb2⟩
 have hq2:Below w1.heap.size w1 w2:=((bR _ w1).drew).trans (((bR _ w1.drew).alloc (nl _) _).trans (hb2.mono (by simp)))
 clear hb2
 go_wp2_with fail
 refine hK.out _ _ (KS.out _ hq2) (fun hHeldo5=>?_)
 clear hK K hHeldo4
 (try simp only [Act.put,sA,sB,sC])
 refine tkD 28 (some 31) ?_
 refine tkD 29 (some 32) ?_
 refine tkD 30 (some 33) ?_
 refine tkD 31 (some 34) ?_
 refine tkD 32 (some 35) ?_
 refine wpAnyH_ready (rs:=[33]) (by kernel_rfl) (by simp) ?_
 refine AllReadyH.cons rfl (fun K hK=>?_) AllReadyH.nil
 go_simp
 go_at_call 157
 with_reducible refine (SP.out _).mono ?_
 rintro e w3 ⟨rfl,hb3⟩
 have hq3:Below w1.heap.size w1 w3:=hq2.trans (hb3.mono hq2.size)
 clear hb3
 go_wp2_with fail
 refine hK.out _ _ (KS.out _ hq3) (fun hHeldo6=>?_)
 clear hK K hHeldo5
 (try simp only [Act.put,sA,sB,sC])
 refine wpAnyH_ready (rs:=[34]) (by kernel_rfl) (by simp) ?_
 refine AllReadyH.cons rfl (fun K hK=>?_) AllReadyH.nil
 go_simp
 go_at_call 156
 with_reducible refine (SS.out _ ?_ ?_).mono ?_
 focus (exact HT.out.below (nl _) (HW1.out.trans (hq3.mono HW1.out.size)))
 focus (exact HTP.out _ (HW1.out.trans (hq3.mono HW1.out.size)))
 rintro e w4 ⟨rfl,hb4⟩
 have hq4:Below w1.heap.size w1 w4:=hq3.trans (hb4.mono hq3.size)
 clear hb4
 go_wp2_with fail
 refine hK.out _ _ (KS.out _ hq4) (fun hHeldo7=>?_)
 clear hK K hHeldo6
 (try simp only [Act.put,sA,sB,sC])
 refine tkD 35 (some 38) ?_
 refine tkD 36 (some 39) ?_
 refine wpAnyH_done (by kernel_rfl) ?_ _
 have HQ4:Hid (Below w.heap.size w w4):=zB8 HW1.out hq4
 have KC4:=LH (HB1.out.call hq4)
 obtain ⟨c3,c4,c5,c6,c7,c8,c9,c10⟩:=lk_all KC4.out
 clear hq2 hq3 hq4 KS
 obtain rfl:V=false:=HVF.out
 go_wp2_with fail
 go_ret
 first
 |exact ⟨rfl,by first |exact HQ7.out |exact HQ6.out |exact HQ5.out |exact HQ4.out⟩
 |(subst hgw;exact ⟨rfl,by first |exact HQ7.out |exact HQ6.out |exact HQ5.out |exact HQ4.out⟩)
end Go.Proofs.YtchakniaoeodmaaGreatDoor

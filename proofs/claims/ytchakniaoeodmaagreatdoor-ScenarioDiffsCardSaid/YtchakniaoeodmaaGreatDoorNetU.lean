/- RightLink of the reference of networks. -/
import Derived.Test.YtchakniaoeodmaaGreatDoorMgL
namespace Go.Proofs.YtchakniaoeodmaaGreatDoor
open Go.RowKit
set_option linter.unusedVariables false
set_option linter.unusedSimpArgs false
theorem zR8 {s:ByteArray} (h:s.size=0):s=⟨#[]⟩:=list_of (List.eq_nil_of_length_eq_zero (by rw [←zL0];exact h))
theorem sz_not {s:ByteArray} (h:s.size≠0):¬s.toList=[]:=fun e=>h (by rw [ByteArray.toList_eq] at e;rw [zL0,e];rfl)
set_option maxRecDepth 100000 in
set_option maxHeartbeats 8000000 in
theorem rlink (nm fr tn:ByteArray) (kd ln up dn:Int) (sc':ByteArray) (wd ht':Int) (A:Option Addr) (n c:Nat) (X Y:Nat→Int) (hn:nm.size≤maxLen) (hf:fr.size≤maxLen) (hto:tn.size≤maxLen) (hs:sc'.size≤maxLen) (w:World) (ht:TabIn w A n X Y):
 Calls Tryz.prog 62 #[.agg #[.string nm,.string fr,.string tn,.int .i64 kd,.int .i64 ln,.int .i64 up,.int .i64 dn,.string sc',.int .i64 wd,.int .i64 ht',.slice A n c]] w fun e w'=>e= .returned (.bool (boolOf (zR7 nm fr tn kd ln up dn sc' wd ht' n X Y)))∧Below w.heap.size w w':=by
 have HT:=LH ht
 have s1:=fun w=>zT2 nm hn w
 have s2:=fun w=>zT2 fr hf w
 have s3:=fun w=>zT2 tn hto w
 have s4:=fun w=>zT2 sc' hs w
 have sl:=fun w=>rlev up w
 have sm:=fun w=>rlev dn w
 have sn:=fun w=>rwithin ln 16777216 w
 have sw:=fun (m:Int) w=>rwithin wd m w
 have sv:=fun w=>rwithin ht' 32768 w
 have sc:=fun w h=>rcurve A n c X Y w h
 obtain ⟨V,hV⟩:∃V,V=boolOf (zR7 nm fr tn kd ln up dn sc' wd ht' n X Y):=⟨_,rfl⟩
 rw [←hV]
 clear ht hn hf hto hs
 by_cases g0:zD1 nm.data.toList=true
 case neg=>
  have hVF:V=false:=by rw [hV];exact zA0 fun h=>g0 h.1
  have g0':zD1 nm.data.toList=false:=by simpa using g0
  rw [g0'] at s1
  subst hVF
  have S1:=LH s1
  have S2:=LH s2
  have S3:=LH s3
  have S4:=LH s4
  have SL:=LH sl
  have SM:=LH sm
  have SN:=LH sn
  have SW:=LH sw
  have SV:=LH sv
  have SC:=LH sc
  clear s1 s2 s3 s4 sl sm sn sw sv sc
  clear hV g0 g0'
  go_enter Tryz.func62,Tryz.ntmps62
  go_wp2_with (first
   |(go_at_call 63;(with_reducible refine (S1.out _).mono ?_);rintro e w' ⟨rfl,rfl⟩))
  go_ret
  exact ⟨rfl,bel⟩
 rw [g0] at s1
 by_cases g1:zD1 fr.data.toList=true
 case neg=>
  have hVF:V=false:=by rw [hV];exact zA0 fun h=>g1 h.2.1
  have g1':zD1 fr.data.toList=false:=by simpa using g1
  rw [g1'] at s2
  subst hVF
  have S1:=LH s1
  have S2:=LH s2
  have S3:=LH s3
  have S4:=LH s4
  have SL:=LH sl
  have SM:=LH sm
  have SN:=LH sn
  have SW:=LH sw
  have SV:=LH sv
  have SC:=LH sc
  clear s1 s2 s3 s4 sl sm sn sw sv sc
  clear hV g0 g1 g1'
  go_enter Tryz.func62,Tryz.ntmps62
  go_wp2_with (first
   |(go_at_call 63;(with_reducible refine (S1.out _).mono ?_);rintro e w' ⟨rfl,rfl⟩)
   |(go_at_call 63;(with_reducible refine (S2.out _).mono ?_);rintro e w' ⟨rfl,rfl⟩))
  go_ret
  exact ⟨rfl,bel⟩
 rw [g1] at s2
 by_cases g2:zD1 tn.data.toList=true
 case neg=>
  have hVF:V=false:=by rw [hV];exact zA0 fun h=>g2 h.2.2.1
  have g2':zD1 tn.data.toList=false:=by simpa using g2
  rw [g2'] at s3
  subst hVF
  have S1:=LH s1
  have S2:=LH s2
  have S3:=LH s3
  have S4:=LH s4
  have SL:=LH sl
  have SM:=LH sm
  have SN:=LH sn
  have SW:=LH sw
  have SV:=LH sv
  have SC:=LH sc
  clear s1 s2 s3 s4 sl sm sn sw sv sc
  clear hV g0 g1 g2 g2'
  go_enter Tryz.func62,Tryz.ntmps62
  go_wp2_with (first
   |(go_at_call 63;(with_reducible refine (S1.out _).mono ?_);rintro e w' ⟨rfl,rfl⟩)
   |(go_at_call 63;(with_reducible refine (S2.out _).mono ?_);rintro e w' ⟨rfl,rfl⟩)
   |(go_at_call 63;(with_reducible refine (S3.out _).mono ?_);rintro e w' ⟨rfl,rfl⟩))
  go_ret
  exact ⟨rfl,bel⟩
 rw [g2] at s3
 by_cases g3:fr≠tn
 case neg=>
  have hVF:V=false:=by rw [hV];exact zA0 fun h=>g3 h.2.2.2.1
  obtain rfl:fr=tn:=Classical.byContradiction fun h=>g3 h
  subst hVF
  have S1:=LH s1
  have S2:=LH s2
  have S3:=LH s3
  have S4:=LH s4
  have SL:=LH sl
  have SM:=LH sm
  have SN:=LH sn
  have SW:=LH sw
  have SV:=LH sv
  have SC:=LH sc
  clear s1 s2 s3 s4 sl sm sn sw sv sc
  clear hV g0 g1 g2 g3
  go_enter Tryz.func62,Tryz.ntmps62
  go_wp2_with (first
   |(go_at_call 63;(with_reducible refine (S1.out _).mono ?_);rintro e w' ⟨rfl,rfl⟩)
   |(go_at_call 63;(with_reducible refine (S2.out _).mono ?_);rintro e w' ⟨rfl,rfl⟩))
  go_ret
  exact ⟨rfl,bel⟩
 have tg3:¬fr.toList=tn.toList:=fun h=>g3 (zC1 h)
 have ug3:(fr.toList==tn.toList)=false:=by simp [tg3]
 by_cases g4:lvP up
 case neg=>
  have hVF:V=false:=by rw [hV];exact zA0 fun h=>g4 h.2.2.2.2.1
  rw [dF g4] at sl
  subst hVF
  have S1:=LH s1
  have S2:=LH s2
  have S3:=LH s3
  have S4:=LH s4
  have SL:=LH sl
  have SM:=LH sm
  have SN:=LH sn
  have SW:=LH sw
  have SV:=LH sv
  have SC:=LH sc
  clear s1 s2 s3 s4 sl sm sn sw sv sc
  clear hV g0 g1 g2 g3 g4
  go_enter Tryz.func62,Tryz.ntmps62
  go_wp2_with (first
   |(go_at_call 63;(with_reducible refine (S1.out _).mono ?_);rintro e w' ⟨rfl,rfl⟩)
   |(go_at_call 63;(with_reducible refine (S2.out _).mono ?_);rintro e w' ⟨rfl,rfl⟩)
   |(go_at_call 63;(with_reducible refine (S3.out _).mono ?_);rintro e w' ⟨rfl,rfl⟩)
   |(go_at_call 102;(with_reducible refine (SL.out _).mono ?_);rintro e w' ⟨rfl,rfl⟩))
  go_ret
  exact ⟨rfl,bel⟩
 rw [dU g4] at sl
 by_cases g5:lvP dn
 case neg=>
  have hVF:V=false:=by rw [hV];exact zA0 fun h=>g5 h.2.2.2.2.2.1
  rw [dF g5] at sm
  subst hVF
  have S1:=LH s1
  have S2:=LH s2
  have S3:=LH s3
  have S4:=LH s4
  have SL:=LH sl
  have SM:=LH sm
  have SN:=LH sn
  have SW:=LH sw
  have SV:=LH sv
  have SC:=LH sc
  clear s1 s2 s3 s4 sl sm sn sw sv sc
  clear hV g0 g1 g2 g3 g4 g5
  go_enter Tryz.func62,Tryz.ntmps62
  go_wp2_with (first
   |(go_at_call 63;(with_reducible refine (S1.out _).mono ?_);rintro e w' ⟨rfl,rfl⟩)
   |(go_at_call 63;(with_reducible refine (S2.out _).mono ?_);rintro e w' ⟨rfl,rfl⟩)
   |(go_at_call 63;(with_reducible refine (S3.out _).mono ?_);rintro e w' ⟨rfl,rfl⟩)
   |(go_at_call 102;(with_reducible refine (SL.out _).mono ?_);rintro e w' ⟨rfl,rfl⟩)
   |(go_at_call 102;(with_reducible refine (SM.out _).mono ?_);rintro e w' ⟨rfl,rfl⟩))
  go_ret
  exact ⟨rfl,bel⟩
 rw [dU g5] at sm
 have hg:zR7 nm fr tn kd ln up dn sc' wd ht' n X Y↔((kd=1∧(1≤ln∧ln≤16777216)∧zD1 sc'.data.toList=true∧wd=0∧ht'=0∧n=0)∨
  (kd=2∧ln=0∧dn=0∧sc'.size=0∧(1≤wd∧wd≤1048576)∧ht'=0∧n=0)∨
  (kd=3∧ln=0∧dn=0∧sc'.size=0∧(1≤wd∧wd≤32768)∧(1≤ht'∧ht'≤32768)∧n=0)∨
  (kd=4∧ln=0∧dn<up∧sc'.size=0∧wd=0∧ht'=0∧zT3 n X Y)):=by
  unfold zR7
  exact ⟨fun h=>h.2.2.2.2.2.2,fun h=>⟨g0,g1,g2,g3,g4,g5,h⟩⟩
 clear g0 g1 g2 g3 g4 g5
 by_cases k1:kd=1
 case pos=>
  subst k1
  have sw:=sw 1048576
  by_cases g10:1≤ln∧ln≤16777216
  case neg=>
   have hVF:V=false:=by rw [hV];exact zA0 fun h=>(by rcases hg.1 h with h |h |h |h;exact g10 h.2.1;exact absurd h.1 (by omega);exact absurd h.1 (by omega);exact absurd h.1 (by omega))
   rw [dF g10] at sn
   subst hVF
   have S1:=LH s1
   have S2:=LH s2
   have S3:=LH s3
   have S4:=LH s4
   have SL:=LH sl
   have SM:=LH sm
   have SN:=LH sn
   have SW:=LH sw
   have SV:=LH sv
   have SC:=LH sc
   clear s1 s2 s3 s4 sl sm sn sw sv sc
   clear hV hg g10
   go_enter Tryz.func62,Tryz.ntmps62
   go_wp2_with (first
        |(go_at_call 63;(with_reducible refine (S1.out _).mono ?_);rintro e w' ⟨rfl,rfl⟩)
        |(go_at_call 63;(with_reducible refine (S2.out _).mono ?_);rintro e w' ⟨rfl,rfl⟩)
        |(go_at_call 63;(with_reducible refine (S3.out _).mono ?_);rintro e w' ⟨rfl,rfl⟩)
        |(go_at_call 102;(with_reducible refine (SL.out _).mono ?_);rintro e w' ⟨rfl,rfl⟩)
        |(go_at_call 102;(with_reducible refine (SM.out _).mono ?_);rintro e w' ⟨rfl,rfl⟩)
        |(go_at_call 104;(with_reducible refine (SN.out _).mono ?_);rintro e w' ⟨rfl,rfl⟩))
   go_ret
   exact ⟨rfl,bel⟩
  rw [dU g10] at sn
  by_cases g11:zD1 sc'.data.toList=true
  case neg=>
   have hVF:V=false:=by rw [hV];exact zA0 fun h=>(by rcases hg.1 h with h |h |h |h;exact g11 h.2.2.1;exact absurd h.1 (by omega);exact absurd h.1 (by omega);exact absurd h.1 (by omega))
   have g11':zD1 sc'.data.toList=false:=by simpa using g11
   rw [g11'] at s4
   subst hVF
   have S1:=LH s1
   have S2:=LH s2
   have S3:=LH s3
   have S4:=LH s4
   have SL:=LH sl
   have SM:=LH sm
   have SN:=LH sn
   have SW:=LH sw
   have SV:=LH sv
   have SC:=LH sc
   clear s1 s2 s3 s4 sl sm sn sw sv sc
   clear hV hg g10 g11 g11'
   go_enter Tryz.func62,Tryz.ntmps62
   go_wp2_with (first
        |(go_at_call 63;(with_reducible refine (S1.out _).mono ?_);rintro e w' ⟨rfl,rfl⟩)
        |(go_at_call 63;(with_reducible refine (S2.out _).mono ?_);rintro e w' ⟨rfl,rfl⟩)
        |(go_at_call 63;(with_reducible refine (S3.out _).mono ?_);rintro e w' ⟨rfl,rfl⟩)
        |(go_at_call 63;(with_reducible refine (S4.out _).mono ?_);rintro e w' ⟨rfl,rfl⟩)
        |(go_at_call 102;(with_reducible refine (SL.out _).mono ?_);rintro e w' ⟨rfl,rfl⟩)
        |(go_at_call 102;(with_reducible refine (SM.out _).mono ?_);rintro e w' ⟨rfl,rfl⟩)
        |(go_at_call 104;(with_reducible refine (SN.out _).mono ?_);rintro e w' ⟨rfl,rfl⟩))
   go_ret
   exact ⟨rfl,bel⟩
  rw [g11] at s4
  by_cases g12:wd=0
  case neg=>
   have hVF:V=false:=by rw [hV];exact zA0 fun h=>(by rcases hg.1 h with h |h |h |h;exact g12 h.2.2.2.1;exact absurd h.1 (by omega);exact absurd h.1 (by omega);exact absurd h.1 (by omega))
   have tg12:(wd==0)=false:=by simpa using g12
   subst hVF
   have S1:=LH s1
   have S2:=LH s2
   have S3:=LH s3
   have S4:=LH s4
   have SL:=LH sl
   have SM:=LH sm
   have SN:=LH sn
   have SW:=LH sw
   have SV:=LH sv
   have SC:=LH sc
   clear s1 s2 s3 s4 sl sm sn sw sv sc
   clear hV hg g10 g11 g12
   go_enter Tryz.func62,Tryz.ntmps62
   go_wp2_with (first
        |(go_at_call 63;(with_reducible refine (S1.out _).mono ?_);rintro e w' ⟨rfl,rfl⟩)
        |(go_at_call 63;(with_reducible refine (S2.out _).mono ?_);rintro e w' ⟨rfl,rfl⟩)
        |(go_at_call 63;(with_reducible refine (S3.out _).mono ?_);rintro e w' ⟨rfl,rfl⟩)
        |(go_at_call 63;(with_reducible refine (S4.out _).mono ?_);rintro e w' ⟨rfl,rfl⟩)
        |(go_at_call 102;(with_reducible refine (SL.out _).mono ?_);rintro e w' ⟨rfl,rfl⟩)
        |(go_at_call 102;(with_reducible refine (SM.out _).mono ?_);rintro e w' ⟨rfl,rfl⟩)
        |(go_at_call 104;(with_reducible refine (SN.out _).mono ?_);rintro e w' ⟨rfl,rfl⟩))
   go_ret
   exact ⟨rfl,bel⟩
  subst g12
  by_cases g13:ht'=0
  case neg=>
   have hVF:V=false:=by rw [hV];exact zA0 fun h=>(by rcases hg.1 h with h |h |h |h;exact g13 h.2.2.2.2.1;exact absurd h.1 (by omega);exact absurd h.1 (by omega);exact absurd h.1 (by omega))
   have tg13:(ht'==0)=false:=by simpa using g13
   subst hVF
   have S1:=LH s1
   have S2:=LH s2
   have S3:=LH s3
   have S4:=LH s4
   have SL:=LH sl
   have SM:=LH sm
   have SN:=LH sn
   have SW:=LH sw
   have SV:=LH sv
   have SC:=LH sc
   clear s1 s2 s3 s4 sl sm sn sw sv sc
   clear hV hg g10 g11 g13
   go_enter Tryz.func62,Tryz.ntmps62
   go_wp2_with (first
        |(go_at_call 63;(with_reducible refine (S1.out _).mono ?_);rintro e w' ⟨rfl,rfl⟩)
        |(go_at_call 63;(with_reducible refine (S2.out _).mono ?_);rintro e w' ⟨rfl,rfl⟩)
        |(go_at_call 63;(with_reducible refine (S3.out _).mono ?_);rintro e w' ⟨rfl,rfl⟩)
        |(go_at_call 63;(with_reducible refine (S4.out _).mono ?_);rintro e w' ⟨rfl,rfl⟩)
        |(go_at_call 102;(with_reducible refine (SL.out _).mono ?_);rintro e w' ⟨rfl,rfl⟩)
        |(go_at_call 102;(with_reducible refine (SM.out _).mono ?_);rintro e w' ⟨rfl,rfl⟩)
        |(go_at_call 104;(with_reducible refine (SN.out _).mono ?_);rintro e w' ⟨rfl,rfl⟩))
   go_ret
   exact ⟨rfl,bel⟩
  subst g13
  by_cases g14:n=0
  case neg=>
   have hVF:V=false:=by rw [hV];exact zA0 fun h=>(by rcases hg.1 h with h |h |h |h;exact g14 h.2.2.2.2.2;exact absurd h.1 (by omega);exact absurd h.1 (by omega);exact absurd h.1 (by omega))
   have tg14:(n==0)=false:=by simpa using g14
   have ug14:((n:Int)==0)=false:=by rw [beq_eq_false_iff_ne];omega
   subst hVF
   have S1:=LH s1
   have S2:=LH s2
   have S3:=LH s3
   have S4:=LH s4
   have SL:=LH sl
   have SM:=LH sm
   have SN:=LH sn
   have SW:=LH sw
   have SV:=LH sv
   have SC:=LH sc
   clear s1 s2 s3 s4 sl sm sn sw sv sc
   clear hV hg g10 g11 g14
   go_enter Tryz.func62,Tryz.ntmps62
   go_wp2_with (first
        |(go_at_call 63;(with_reducible refine (S1.out _).mono ?_);rintro e w' ⟨rfl,rfl⟩)
        |(go_at_call 63;(with_reducible refine (S2.out _).mono ?_);rintro e w' ⟨rfl,rfl⟩)
        |(go_at_call 63;(with_reducible refine (S3.out _).mono ?_);rintro e w' ⟨rfl,rfl⟩)
        |(go_at_call 63;(with_reducible refine (S4.out _).mono ?_);rintro e w' ⟨rfl,rfl⟩)
        |(go_at_call 102;(with_reducible refine (SL.out _).mono ?_);rintro e w' ⟨rfl,rfl⟩)
        |(go_at_call 102;(with_reducible refine (SM.out _).mono ?_);rintro e w' ⟨rfl,rfl⟩)
        |(go_at_call 104;(with_reducible refine (SN.out _).mono ?_);rintro e w' ⟨rfl,rfl⟩))
   go_ret
   exact ⟨rfl,bel⟩
  subst g14
  have hVF:V=true:=by rw [hV];exact zA2 (hg.2 (.inl ⟨rfl,g10,g11,rfl,rfl,rfl⟩))
  subst hVF
  have S1:=LH s1
  have S2:=LH s2
  have S3:=LH s3
  have S4:=LH s4
  have SL:=LH sl
  have SM:=LH sm
  have SN:=LH sn
  have SW:=LH sw
  have SV:=LH sv
  have SC:=LH sc
  clear s1 s2 s3 s4 sl sm sn sw sv sc
  clear hV hg g10 g11
  go_enter Tryz.func62,Tryz.ntmps62
  go_wp2_with (first
   |(go_at_call 63;(with_reducible refine (S1.out _).mono ?_);rintro e w' ⟨rfl,rfl⟩)
   |(go_at_call 63;(with_reducible refine (S2.out _).mono ?_);rintro e w' ⟨rfl,rfl⟩)
   |(go_at_call 63;(with_reducible refine (S3.out _).mono ?_);rintro e w' ⟨rfl,rfl⟩)
   |(go_at_call 63;(with_reducible refine (S4.out _).mono ?_);rintro e w' ⟨rfl,rfl⟩)
   |(go_at_call 102;(with_reducible refine (SL.out _).mono ?_);rintro e w' ⟨rfl,rfl⟩)
   |(go_at_call 102;(with_reducible refine (SM.out _).mono ?_);rintro e w' ⟨rfl,rfl⟩)
   |(go_at_call 104;(with_reducible refine (SN.out _).mono ?_);rintro e w' ⟨rfl,rfl⟩))
  go_ret
  exact ⟨rfl,bel⟩
 have u1:(kd==1)=false:=by simpa using k1
 by_cases k2:kd=2
 case pos=>
  subst k2
  have sw:=sw 1048576
  by_cases g20:ln=0
  case neg=>
   have hVF:V=false:=by rw [hV];exact zA0 fun h=>(by rcases hg.1 h with h |h |h |h;exact absurd h.1 (by omega);exact g20 h.2.1;exact absurd h.1 (by omega);exact absurd h.1 (by omega))
   have tg20:(ln==0)=false:=by simpa using g20
   subst hVF
   have S1:=LH s1
   have S2:=LH s2
   have S3:=LH s3
   have SL:=LH sl
   have SM:=LH sm
   have SW:=LH sw
   have SV:=LH sv
   have SC:=LH sc
   clear s1 s2 s3 s4 sl sm sn sw sv sc
   clear hV hg k1 g20
   go_enter Tryz.func62,Tryz.ntmps62
   go_wp2_with (first
        |(go_at_call 63;(with_reducible refine (S1.out _).mono ?_);rintro e w' ⟨rfl,rfl⟩)
        |(go_at_call 63;(with_reducible refine (S2.out _).mono ?_);rintro e w' ⟨rfl,rfl⟩)
        |(go_at_call 63;(with_reducible refine (S3.out _).mono ?_);rintro e w' ⟨rfl,rfl⟩)
        |(go_at_call 102;(with_reducible refine (SL.out _).mono ?_);rintro e w' ⟨rfl,rfl⟩)
        |(go_at_call 102;(with_reducible refine (SM.out _).mono ?_);rintro e w' ⟨rfl,rfl⟩))
   go_ret
   exact ⟨rfl,bel⟩
  subst g20
  by_cases g21:dn=0
  case neg=>
   have hVF:V=false:=by rw [hV];exact zA0 fun h=>(by rcases hg.1 h with h |h |h |h;exact absurd h.1 (by omega);exact g21 h.2.2.1;exact absurd h.1 (by omega);exact absurd h.1 (by omega))
   have tg21:(dn==0)=false:=by simpa using g21
   subst hVF
   have S1:=LH s1
   have S2:=LH s2
   have S3:=LH s3
   have SL:=LH sl
   have SM:=LH sm
   have SW:=LH sw
   have SV:=LH sv
   have SC:=LH sc
   clear s1 s2 s3 s4 sl sm sn sw sv sc
   clear hV hg k1 g21
   go_enter Tryz.func62,Tryz.ntmps62
   go_wp2_with (first
        |(go_at_call 63;(with_reducible refine (S1.out _).mono ?_);rintro e w' ⟨rfl,rfl⟩)
        |(go_at_call 63;(with_reducible refine (S2.out _).mono ?_);rintro e w' ⟨rfl,rfl⟩)
        |(go_at_call 63;(with_reducible refine (S3.out _).mono ?_);rintro e w' ⟨rfl,rfl⟩)
        |(go_at_call 102;(with_reducible refine (SL.out _).mono ?_);rintro e w' ⟨rfl,rfl⟩)
        |(go_at_call 102;(with_reducible refine (SM.out _).mono ?_);rintro e w' ⟨rfl,rfl⟩))
   go_ret
   exact ⟨rfl,bel⟩
  subst g21
  by_cases g22:sc'.size=0
  case neg=>
   have hVF:V=false:=by rw [hV];exact zA0 fun h=>(by rcases hg.1 h with h |h |h |h;exact absurd h.1 (by omega);exact g22 h.2.2.2.1;exact absurd h.1 (by omega);exact absurd h.1 (by omega))
   have tg22:=sz_not g22
   have ug22:sc'.toList.isEmpty=false:=by cases h:sc'.toList with |nil=>exact absurd h tg22 |cons a l=>rfl
   have vg22:(sc'.toList==[])=false:=by simpa using tg22
   subst hVF
   have S1:=LH s1
   have S2:=LH s2
   have S3:=LH s3
   have SL:=LH sl
   have SM:=LH sm
   have SW:=LH sw
   have SV:=LH sv
   have SC:=LH sc
   clear s1 s2 s3 s4 sl sm sn sw sv sc
   clear hV hg k1 g22
   go_enter Tryz.func62,Tryz.ntmps62
   go_wp2_with (first
        |(go_at_call 63;(with_reducible refine (S1.out _).mono ?_);rintro e w' ⟨rfl,rfl⟩)
        |(go_at_call 63;(with_reducible refine (S2.out _).mono ?_);rintro e w' ⟨rfl,rfl⟩)
        |(go_at_call 63;(with_reducible refine (S3.out _).mono ?_);rintro e w' ⟨rfl,rfl⟩)
        |(go_at_call 102;(with_reducible refine (SL.out _).mono ?_);rintro e w' ⟨rfl,rfl⟩)
        |(go_at_call 102;(with_reducible refine (SM.out _).mono ?_);rintro e w' ⟨rfl,rfl⟩))
   go_ret
   exact ⟨rfl,bel⟩
  obtain rfl:=zR8 g22
  by_cases g23:1≤wd∧wd≤1048576
  case neg=>
   have hVF:V=false:=by rw [hV];exact zA0 fun h=>(by rcases hg.1 h with h |h |h |h;exact absurd h.1 (by omega);exact g23 h.2.2.2.2.1;exact absurd h.1 (by omega);exact absurd h.1 (by omega))
   rw [dF g23] at sw
   subst hVF
   have S1:=LH s1
   have S2:=LH s2
   have S3:=LH s3
   have SL:=LH sl
   have SM:=LH sm
   have SW:=LH sw
   have SV:=LH sv
   have SC:=LH sc
   clear s1 s2 s3 s4 sl sm sn sw sv sc
   clear hV hg k1 g22 g23
   go_enter Tryz.func62,Tryz.ntmps62
   go_wp2_with (first
        |(go_at_call 63;(with_reducible refine (S1.out _).mono ?_);rintro e w' ⟨rfl,rfl⟩)
        |(go_at_call 63;(with_reducible refine (S2.out _).mono ?_);rintro e w' ⟨rfl,rfl⟩)
        |(go_at_call 63;(with_reducible refine (S3.out _).mono ?_);rintro e w' ⟨rfl,rfl⟩)
        |(go_at_call 102;(with_reducible refine (SL.out _).mono ?_);rintro e w' ⟨rfl,rfl⟩)
        |(go_at_call 102;(with_reducible refine (SM.out _).mono ?_);rintro e w' ⟨rfl,rfl⟩)
        |(go_at_call 104;(with_reducible refine (SW.out _).mono ?_);rintro e w' ⟨rfl,rfl⟩))
   go_ret
   exact ⟨rfl,bel⟩
  rw [dU g23] at sw
  by_cases g24:ht'=0
  case neg=>
   have hVF:V=false:=by rw [hV];exact zA0 fun h=>(by rcases hg.1 h with h |h |h |h;exact absurd h.1 (by omega);exact g24 h.2.2.2.2.2.1;exact absurd h.1 (by omega);exact absurd h.1 (by omega))
   have tg24:(ht'==0)=false:=by simpa using g24
   subst hVF
   have S1:=LH s1
   have S2:=LH s2
   have S3:=LH s3
   have SL:=LH sl
   have SM:=LH sm
   have SW:=LH sw
   have SV:=LH sv
   have SC:=LH sc
   clear s1 s2 s3 s4 sl sm sn sw sv sc
   clear hV hg k1 g22 g23 g24
   go_enter Tryz.func62,Tryz.ntmps62
   go_wp2_with (first
        |(go_at_call 63;(with_reducible refine (S1.out _).mono ?_);rintro e w' ⟨rfl,rfl⟩)
        |(go_at_call 63;(with_reducible refine (S2.out _).mono ?_);rintro e w' ⟨rfl,rfl⟩)
        |(go_at_call 63;(with_reducible refine (S3.out _).mono ?_);rintro e w' ⟨rfl,rfl⟩)
        |(go_at_call 102;(with_reducible refine (SL.out _).mono ?_);rintro e w' ⟨rfl,rfl⟩)
        |(go_at_call 102;(with_reducible refine (SM.out _).mono ?_);rintro e w' ⟨rfl,rfl⟩)
        |(go_at_call 104;(with_reducible refine (SW.out _).mono ?_);rintro e w' ⟨rfl,rfl⟩))
   go_ret
   exact ⟨rfl,bel⟩
  subst g24
  by_cases g25:n=0
  case neg=>
   have hVF:V=false:=by rw [hV];exact zA0 fun h=>(by rcases hg.1 h with h |h |h |h;exact absurd h.1 (by omega);exact g25 h.2.2.2.2.2.2;exact absurd h.1 (by omega);exact absurd h.1 (by omega))
   have tg25:(n==0)=false:=by simpa using g25
   have ug25:((n:Int)==0)=false:=by rw [beq_eq_false_iff_ne];omega
   subst hVF
   have S1:=LH s1
   have S2:=LH s2
   have S3:=LH s3
   have SL:=LH sl
   have SM:=LH sm
   have SW:=LH sw
   have SV:=LH sv
   have SC:=LH sc
   clear s1 s2 s3 s4 sl sm sn sw sv sc
   clear hV hg k1 g22 g23 g25
   go_enter Tryz.func62,Tryz.ntmps62
   go_wp2_with (first
        |(go_at_call 63;(with_reducible refine (S1.out _).mono ?_);rintro e w' ⟨rfl,rfl⟩)
        |(go_at_call 63;(with_reducible refine (S2.out _).mono ?_);rintro e w' ⟨rfl,rfl⟩)
        |(go_at_call 63;(with_reducible refine (S3.out _).mono ?_);rintro e w' ⟨rfl,rfl⟩)
        |(go_at_call 102;(with_reducible refine (SL.out _).mono ?_);rintro e w' ⟨rfl,rfl⟩)
        |(go_at_call 102;(with_reducible refine (SM.out _).mono ?_);rintro e w' ⟨rfl,rfl⟩)
        |(go_at_call 104;(with_reducible refine (SW.out _).mono ?_);rintro e w' ⟨rfl,rfl⟩))
   go_ret
   exact ⟨rfl,bel⟩
  subst g25
  have hVF:V=true:=by rw [hV];exact zA2 (hg.2 (.inr (.inl ⟨rfl,rfl,rfl,rfl,g23,rfl,rfl⟩)))
  subst hVF
  have S1:=LH s1
  have S2:=LH s2
  have S3:=LH s3
  have SL:=LH sl
  have SM:=LH sm
  have SW:=LH sw
  have SV:=LH sv
  have SC:=LH sc
  clear s1 s2 s3 s4 sl sm sn sw sv sc
  clear hV hg k1 g22 g23
  go_enter Tryz.func62,Tryz.ntmps62
  go_wp2_with (first
   |(go_at_call 63;(with_reducible refine (S1.out _).mono ?_);rintro e w' ⟨rfl,rfl⟩)
   |(go_at_call 63;(with_reducible refine (S2.out _).mono ?_);rintro e w' ⟨rfl,rfl⟩)
   |(go_at_call 63;(with_reducible refine (S3.out _).mono ?_);rintro e w' ⟨rfl,rfl⟩)
   |(go_at_call 102;(with_reducible refine (SL.out _).mono ?_);rintro e w' ⟨rfl,rfl⟩)
   |(go_at_call 102;(with_reducible refine (SM.out _).mono ?_);rintro e w' ⟨rfl,rfl⟩)
   |(go_at_call 104;(with_reducible refine (SW.out _).mono ?_);rintro e w' ⟨rfl,rfl⟩))
  go_ret
  exact ⟨rfl,bel⟩
 have u2:(kd==2)=false:=by simpa using k2
 by_cases k3:kd=3
 case pos=>
  subst k3
  have sw:=sw 32768
  by_cases g30:ln=0
  case neg=>
   have hVF:V=false:=by rw [hV];exact zA0 fun h=>(by rcases hg.1 h with h |h |h |h;exact absurd h.1 (by omega);exact absurd h.1 (by omega);exact g30 h.2.1;exact absurd h.1 (by omega))
   have tg30:(ln==0)=false:=by simpa using g30
   subst hVF
   have S1:=LH s1
   have S2:=LH s2
   have S3:=LH s3
   have SL:=LH sl
   have SM:=LH sm
   have SW:=LH sw
   have SV:=LH sv
   have SC:=LH sc
   clear s1 s2 s3 s4 sl sm sn sw sv sc
   clear hV hg k1 k2 g30
   go_enter Tryz.func62,Tryz.ntmps62
   go_wp2_with (first
        |(go_at_call 63;(with_reducible refine (S1.out _).mono ?_);rintro e w' ⟨rfl,rfl⟩)
        |(go_at_call 63;(with_reducible refine (S2.out _).mono ?_);rintro e w' ⟨rfl,rfl⟩)
        |(go_at_call 63;(with_reducible refine (S3.out _).mono ?_);rintro e w' ⟨rfl,rfl⟩)
        |(go_at_call 102;(with_reducible refine (SL.out _).mono ?_);rintro e w' ⟨rfl,rfl⟩)
        |(go_at_call 102;(with_reducible refine (SM.out _).mono ?_);rintro e w' ⟨rfl,rfl⟩))
   go_ret
   exact ⟨rfl,bel⟩
  subst g30
  by_cases g31:dn=0
  case neg=>
   have hVF:V=false:=by rw [hV];exact zA0 fun h=>(by rcases hg.1 h with h |h |h |h;exact absurd h.1 (by omega);exact absurd h.1 (by omega);exact g31 h.2.2.1;exact absurd h.1 (by omega))
   have tg31:(dn==0)=false:=by simpa using g31
   subst hVF
   have S1:=LH s1
   have S2:=LH s2
   have S3:=LH s3
   have SL:=LH sl
   have SM:=LH sm
   have SW:=LH sw
   have SV:=LH sv
   have SC:=LH sc
   clear s1 s2 s3 s4 sl sm sn sw sv sc
   clear hV hg k1 k2 g31
   go_enter Tryz.func62,Tryz.ntmps62
   go_wp2_with (first
        |(go_at_call 63;(with_reducible refine (S1.out _).mono ?_);rintro e w' ⟨rfl,rfl⟩)
        |(go_at_call 63;(with_reducible refine (S2.out _).mono ?_);rintro e w' ⟨rfl,rfl⟩)
        |(go_at_call 63;(with_reducible refine (S3.out _).mono ?_);rintro e w' ⟨rfl,rfl⟩)
        |(go_at_call 102;(with_reducible refine (SL.out _).mono ?_);rintro e w' ⟨rfl,rfl⟩)
        |(go_at_call 102;(with_reducible refine (SM.out _).mono ?_);rintro e w' ⟨rfl,rfl⟩))
   go_ret
   exact ⟨rfl,bel⟩
  subst g31
  by_cases g32:sc'.size=0
  case neg=>
   have hVF:V=false:=by rw [hV];exact zA0 fun h=>(by rcases hg.1 h with h |h |h |h;exact absurd h.1 (by omega);exact absurd h.1 (by omega);exact g32 h.2.2.2.1;exact absurd h.1 (by omega))
   have tg32:=sz_not g32
   have ug32:sc'.toList.isEmpty=false:=by cases h:sc'.toList with |nil=>exact absurd h tg32 |cons a l=>rfl
   have vg32:(sc'.toList==[])=false:=by simpa using tg32
   subst hVF
   have S1:=LH s1
   have S2:=LH s2
   have S3:=LH s3
   have SL:=LH sl
   have SM:=LH sm
   have SW:=LH sw
   have SV:=LH sv
   have SC:=LH sc
   clear s1 s2 s3 s4 sl sm sn sw sv sc
   clear hV hg k1 k2 g32
   go_enter Tryz.func62,Tryz.ntmps62
   go_wp2_with (first
        |(go_at_call 63;(with_reducible refine (S1.out _).mono ?_);rintro e w' ⟨rfl,rfl⟩)
        |(go_at_call 63;(with_reducible refine (S2.out _).mono ?_);rintro e w' ⟨rfl,rfl⟩)
        |(go_at_call 63;(with_reducible refine (S3.out _).mono ?_);rintro e w' ⟨rfl,rfl⟩)
        |(go_at_call 102;(with_reducible refine (SL.out _).mono ?_);rintro e w' ⟨rfl,rfl⟩)
        |(go_at_call 102;(with_reducible refine (SM.out _).mono ?_);rintro e w' ⟨rfl,rfl⟩))
   go_ret
   exact ⟨rfl,bel⟩
  obtain rfl:=zR8 g32
  by_cases g33:1≤wd∧wd≤32768
  case neg=>
   have hVF:V=false:=by rw [hV];exact zA0 fun h=>(by rcases hg.1 h with h |h |h |h;exact absurd h.1 (by omega);exact absurd h.1 (by omega);exact g33 h.2.2.2.2.1;exact absurd h.1 (by omega))
   rw [dF g33] at sw
   subst hVF
   have S1:=LH s1
   have S2:=LH s2
   have S3:=LH s3
   have SL:=LH sl
   have SM:=LH sm
   have SW:=LH sw
   have SV:=LH sv
   have SC:=LH sc
   clear s1 s2 s3 s4 sl sm sn sw sv sc
   clear hV hg k1 k2 g32 g33
   go_enter Tryz.func62,Tryz.ntmps62
   go_wp2_with (first
        |(go_at_call 63;(with_reducible refine (S1.out _).mono ?_);rintro e w' ⟨rfl,rfl⟩)
        |(go_at_call 63;(with_reducible refine (S2.out _).mono ?_);rintro e w' ⟨rfl,rfl⟩)
        |(go_at_call 63;(with_reducible refine (S3.out _).mono ?_);rintro e w' ⟨rfl,rfl⟩)
        |(go_at_call 102;(with_reducible refine (SL.out _).mono ?_);rintro e w' ⟨rfl,rfl⟩)
        |(go_at_call 102;(with_reducible refine (SM.out _).mono ?_);rintro e w' ⟨rfl,rfl⟩)
        |(go_at_call 104;(with_reducible refine (SW.out _).mono ?_);rintro e w' ⟨rfl,rfl⟩))
   go_ret
   exact ⟨rfl,bel⟩
  rw [dU g33] at sw
  by_cases g34:1≤ht'∧ht'≤32768
  case neg=>
   have hVF:V=false:=by rw [hV];exact zA0 fun h=>(by rcases hg.1 h with h |h |h |h;exact absurd h.1 (by omega);exact absurd h.1 (by omega);exact g34 h.2.2.2.2.2.1;exact absurd h.1 (by omega))
   rw [dF g34] at sv
   subst hVF
   have S1:=LH s1
   have S2:=LH s2
   have S3:=LH s3
   have SL:=LH sl
   have SM:=LH sm
   have SW:=LH sw
   have SV:=LH sv
   have SC:=LH sc
   clear s1 s2 s3 s4 sl sm sn sw sv sc
   clear hV hg k1 k2 g32 g33 g34
   go_enter Tryz.func62,Tryz.ntmps62
   go_wp2_with (first
        |(go_at_call 63;(with_reducible refine (S1.out _).mono ?_);rintro e w' ⟨rfl,rfl⟩)
        |(go_at_call 63;(with_reducible refine (S2.out _).mono ?_);rintro e w' ⟨rfl,rfl⟩)
        |(go_at_call 63;(with_reducible refine (S3.out _).mono ?_);rintro e w' ⟨rfl,rfl⟩)
        |(go_at_call 102;(with_reducible refine (SL.out _).mono ?_);rintro e w' ⟨rfl,rfl⟩)
        |(go_at_call 102;(with_reducible refine (SM.out _).mono ?_);rintro e w' ⟨rfl,rfl⟩)
        |(go_at_call 104;(with_reducible refine (SW.out _).mono ?_);rintro e w' ⟨rfl,rfl⟩)
        |(go_at_call 104;(with_reducible refine (SV.out _).mono ?_);rintro e w' ⟨rfl,rfl⟩))
   go_ret
   exact ⟨rfl,bel⟩
  rw [dU g34] at sv
  by_cases g35:n=0
  case neg=>
   have hVF:V=false:=by rw [hV];exact zA0 fun h=>(by rcases hg.1 h with h |h |h |h;exact absurd h.1 (by omega);exact absurd h.1 (by omega);exact g35 h.2.2.2.2.2.2;exact absurd h.1 (by omega))
   have tg35:(n==0)=false:=by simpa using g35
   have ug35:((n:Int)==0)=false:=by rw [beq_eq_false_iff_ne];omega
   subst hVF
   have S1:=LH s1
   have S2:=LH s2
   have S3:=LH s3
   have SL:=LH sl
   have SM:=LH sm
   have SW:=LH sw
   have SV:=LH sv
   have SC:=LH sc
   clear s1 s2 s3 s4 sl sm sn sw sv sc
   clear hV hg k1 k2 g32 g33 g34 g35
   go_enter Tryz.func62,Tryz.ntmps62
   go_wp2_with (first
        |(go_at_call 63;(with_reducible refine (S1.out _).mono ?_);rintro e w' ⟨rfl,rfl⟩)
        |(go_at_call 63;(with_reducible refine (S2.out _).mono ?_);rintro e w' ⟨rfl,rfl⟩)
        |(go_at_call 63;(with_reducible refine (S3.out _).mono ?_);rintro e w' ⟨rfl,rfl⟩)
        |(go_at_call 102;(with_reducible refine (SL.out _).mono ?_);rintro e w' ⟨rfl,rfl⟩)
        |(go_at_call 102;(with_reducible refine (SM.out _).mono ?_);rintro e w' ⟨rfl,rfl⟩)
        |(go_at_call 104;(with_reducible refine (SW.out _).mono ?_);rintro e w' ⟨rfl,rfl⟩)
        |(go_at_call 104;(with_reducible refine (SV.out _).mono ?_);rintro e w' ⟨rfl,rfl⟩))
   go_ret
   exact ⟨rfl,bel⟩
  subst g35
  have hVF:V=true:=by rw [hV];exact zA2 (hg.2 (.inr (.inr (.inl ⟨rfl,rfl,rfl,rfl,g33,g34,rfl⟩))))
  subst hVF
  have S1:=LH s1
  have S2:=LH s2
  have S3:=LH s3
  have SL:=LH sl
  have SM:=LH sm
  have SW:=LH sw
  have SV:=LH sv
  have SC:=LH sc
  clear s1 s2 s3 s4 sl sm sn sw sv sc
  clear hV hg k1 k2 g32 g33 g34
  go_enter Tryz.func62,Tryz.ntmps62
  go_wp2_with (first
   |(go_at_call 63;(with_reducible refine (S1.out _).mono ?_);rintro e w' ⟨rfl,rfl⟩)
   |(go_at_call 63;(with_reducible refine (S2.out _).mono ?_);rintro e w' ⟨rfl,rfl⟩)
   |(go_at_call 63;(with_reducible refine (S3.out _).mono ?_);rintro e w' ⟨rfl,rfl⟩)
   |(go_at_call 102;(with_reducible refine (SL.out _).mono ?_);rintro e w' ⟨rfl,rfl⟩)
   |(go_at_call 102;(with_reducible refine (SM.out _).mono ?_);rintro e w' ⟨rfl,rfl⟩)
   |(go_at_call 104;(with_reducible refine (SW.out _).mono ?_);rintro e w' ⟨rfl,rfl⟩)
   |(go_at_call 104;(with_reducible refine (SV.out _).mono ?_);rintro e w' ⟨rfl,rfl⟩))
  go_ret
  exact ⟨rfl,bel⟩
 have u3:(kd==3)=false:=by simpa using k3
 by_cases k4:kd=4
 case pos=>
  subst k4
  have sw:=sw 1048576
  by_cases g40:ln=0
  case neg=>
   have hVF:V=false:=by rw [hV];exact zA0 fun h=>(by rcases hg.1 h with h |h |h |h;exact absurd h.1 (by omega);exact absurd h.1 (by omega);exact absurd h.1 (by omega);exact g40 h.2.1)
   have tg40:(ln==0)=false:=by simpa using g40
   subst hVF
   have S1:=LH s1
   have S2:=LH s2
   have S3:=LH s3
   have SL:=LH sl
   have SM:=LH sm
   have SC:=LH sc
   clear s1 s2 s3 s4 sl sm sn sw sv sc
   clear hV hg k1 k2 k3 g40
   go_enter Tryz.func62,Tryz.ntmps62
   go_wp2_with (first
        |(go_at_call 63;(with_reducible refine (S1.out _).mono ?_);rintro e w' ⟨rfl,rfl⟩)
        |(go_at_call 63;(with_reducible refine (S2.out _).mono ?_);rintro e w' ⟨rfl,rfl⟩)
        |(go_at_call 63;(with_reducible refine (S3.out _).mono ?_);rintro e w' ⟨rfl,rfl⟩)
        |(go_at_call 102;(with_reducible refine (SL.out _).mono ?_);rintro e w' ⟨rfl,rfl⟩)
        |(go_at_call 102;(with_reducible refine (SM.out _).mono ?_);rintro e w' ⟨rfl,rfl⟩))
   go_ret
   exact ⟨rfl,bel⟩
  subst g40
  by_cases g41:dn<up
  case neg=>
   have hVF:V=false:=by rw [hV];exact zA0 fun h=>(by rcases hg.1 h with h |h |h |h;exact absurd h.1 (by omega);exact absurd h.1 (by omega);exact absurd h.1 (by omega);exact g41 h.2.2.1)
   have tg41:decide (dn<up)=false:=dF g41
   subst hVF
   have S1:=LH s1
   have S2:=LH s2
   have S3:=LH s3
   have SL:=LH sl
   have SM:=LH sm
   have SC:=LH sc
   clear s1 s2 s3 s4 sl sm sn sw sv sc
   clear hV hg k1 k2 k3 g41
   go_enter Tryz.func62,Tryz.ntmps62
   go_wp2_with (first
        |(go_at_call 63;(with_reducible refine (S1.out _).mono ?_);rintro e w' ⟨rfl,rfl⟩)
        |(go_at_call 63;(with_reducible refine (S2.out _).mono ?_);rintro e w' ⟨rfl,rfl⟩)
        |(go_at_call 63;(with_reducible refine (S3.out _).mono ?_);rintro e w' ⟨rfl,rfl⟩)
        |(go_at_call 102;(with_reducible refine (SL.out _).mono ?_);rintro e w' ⟨rfl,rfl⟩)
        |(go_at_call 102;(with_reducible refine (SM.out _).mono ?_);rintro e w' ⟨rfl,rfl⟩))
   go_ret
   exact ⟨rfl,bel⟩
  have tg41:decide (dn<up)=true:=dU g41
  by_cases g42:sc'.size=0
  case neg=>
   have hVF:V=false:=by rw [hV];exact zA0 fun h=>(by rcases hg.1 h with h |h |h |h;exact absurd h.1 (by omega);exact absurd h.1 (by omega);exact absurd h.1 (by omega);exact g42 h.2.2.2.1)
   have tg42:=sz_not g42
   have ug42:sc'.toList.isEmpty=false:=by cases h:sc'.toList with |nil=>exact absurd h tg42 |cons a l=>rfl
   have vg42:(sc'.toList==[])=false:=by simpa using tg42
   subst hVF
   have S1:=LH s1
   have S2:=LH s2
   have S3:=LH s3
   have SL:=LH sl
   have SM:=LH sm
   have SC:=LH sc
   clear s1 s2 s3 s4 sl sm sn sw sv sc
   clear hV hg k1 k2 k3 g41 g42
   go_enter Tryz.func62,Tryz.ntmps62
   go_wp2_with (first
        |(go_at_call 63;(with_reducible refine (S1.out _).mono ?_);rintro e w' ⟨rfl,rfl⟩)
        |(go_at_call 63;(with_reducible refine (S2.out _).mono ?_);rintro e w' ⟨rfl,rfl⟩)
        |(go_at_call 63;(with_reducible refine (S3.out _).mono ?_);rintro e w' ⟨rfl,rfl⟩)
        |(go_at_call 102;(with_reducible refine (SL.out _).mono ?_);rintro e w' ⟨rfl,rfl⟩)
        |(go_at_call 102;(with_reducible refine (SM.out _).mono ?_);rintro e w' ⟨rfl,rfl⟩))
   go_ret
   exact ⟨rfl,bel⟩
  obtain rfl:=zR8 g42
  by_cases g43:wd=0
  case neg=>
   have hVF:V=false:=by rw [hV];exact zA0 fun h=>(by rcases hg.1 h with h |h |h |h;exact absurd h.1 (by omega);exact absurd h.1 (by omega);exact absurd h.1 (by omega);exact g43 h.2.2.2.2.1)
   have tg43:(wd==0)=false:=by simpa using g43
   subst hVF
   have S1:=LH s1
   have S2:=LH s2
   have S3:=LH s3
   have SL:=LH sl
   have SM:=LH sm
   have SC:=LH sc
   clear s1 s2 s3 s4 sl sm sn sw sv sc
   clear hV hg k1 k2 k3 g41 g42 g43
   go_enter Tryz.func62,Tryz.ntmps62
   go_wp2_with (first
        |(go_at_call 63;(with_reducible refine (S1.out _).mono ?_);rintro e w' ⟨rfl,rfl⟩)
        |(go_at_call 63;(with_reducible refine (S2.out _).mono ?_);rintro e w' ⟨rfl,rfl⟩)
        |(go_at_call 63;(with_reducible refine (S3.out _).mono ?_);rintro e w' ⟨rfl,rfl⟩)
        |(go_at_call 102;(with_reducible refine (SL.out _).mono ?_);rintro e w' ⟨rfl,rfl⟩)
        |(go_at_call 102;(with_reducible refine (SM.out _).mono ?_);rintro e w' ⟨rfl,rfl⟩))
   go_ret
   exact ⟨rfl,bel⟩
  subst g43
  by_cases g44:ht'=0
  case neg=>
   have hVF:V=false:=by rw [hV];exact zA0 fun h=>(by rcases hg.1 h with h |h |h |h;exact absurd h.1 (by omega);exact absurd h.1 (by omega);exact absurd h.1 (by omega);exact g44 h.2.2.2.2.2.1)
   have tg44:(ht'==0)=false:=by simpa using g44
   subst hVF
   have S1:=LH s1
   have S2:=LH s2
   have S3:=LH s3
   have SL:=LH sl
   have SM:=LH sm
   have SC:=LH sc
   clear s1 s2 s3 s4 sl sm sn sw sv sc
   clear hV hg k1 k2 k3 g41 g42 g44
   go_enter Tryz.func62,Tryz.ntmps62
   go_wp2_with (first
        |(go_at_call 63;(with_reducible refine (S1.out _).mono ?_);rintro e w' ⟨rfl,rfl⟩)
        |(go_at_call 63;(with_reducible refine (S2.out _).mono ?_);rintro e w' ⟨rfl,rfl⟩)
        |(go_at_call 63;(with_reducible refine (S3.out _).mono ?_);rintro e w' ⟨rfl,rfl⟩)
        |(go_at_call 102;(with_reducible refine (SL.out _).mono ?_);rintro e w' ⟨rfl,rfl⟩)
        |(go_at_call 102;(with_reducible refine (SM.out _).mono ?_);rintro e w' ⟨rfl,rfl⟩))
   go_ret
   exact ⟨rfl,bel⟩
  subst g44
  by_cases g45:zT3 n X Y
  case neg=>
   have hVF:V=false:=by rw [hV];exact zA0 fun h=>(by rcases hg.1 h with h |h |h |h;exact absurd h.1 (by omega);exact absurd h.1 (by omega);exact absurd h.1 (by omega);exact g45 h.2.2.2.2.2.2)
   rw [zA0 g45] at sc
   subst hVF
   have S1:=LH s1
   have S2:=LH s2
   have S3:=LH s3
   have SL:=LH sl
   have SM:=LH sm
   have SC:=LH sc
   clear s1 s2 s3 s4 sl sm sn sw sv sc
   clear hV hg k1 k2 k3 g41 g42 g45
   go_enter Tryz.func62,Tryz.ntmps62
   go_wp2_with (first
        |(go_at_call 63;(with_reducible refine (S1.out _).mono ?_);rintro e w' ⟨rfl,rfl⟩)
        |(go_at_call 63;(with_reducible refine (S2.out _).mono ?_);rintro e w' ⟨rfl,rfl⟩)
        |(go_at_call 63;(with_reducible refine (S3.out _).mono ?_);rintro e w' ⟨rfl,rfl⟩)
        |(go_at_call 102;(with_reducible refine (SL.out _).mono ?_);rintro e w' ⟨rfl,rfl⟩)
        |(go_at_call 102;(with_reducible refine (SM.out _).mono ?_);rintro e w' ⟨rfl,rfl⟩)
        |(go_at_call 105;(with_reducible refine (SC.out _ ?_).mono ?_);(focus (exact HT.out.below (nl _) bel));rintro e w1 ⟨rfl,hb1⟩;obtain ⟨hc1,hf1⟩:=zA8 hb1;have hz1:=hb1.size;(try simp at hz1);(try simp only [heap_drew,World.heap_drewN] at hz1 hc1 hf1);(try have hs1:=Nat.lt_of_succ_le hz1);(try have hs2:=Nat.lt_of_succ_lt hs1);(try have y0:w.heap.size<w1.heap.size:=by omega);(try have y1:w.heap.size+1<w1.heap.size:=by omega);(try have y2:w.heap.size+2<w1.heap.size:=by omega)))
   go_ret
   exact ⟨rfl,bel⟩
  rw [zA2 g45] at sc
  have hVF:V=true:=by rw [hV];exact zA2 (hg.2 (.inr (.inr (.inr (⟨rfl,rfl,g41,rfl,rfl,rfl,g45⟩)))))
  subst hVF
  have S1:=LH s1
  have S2:=LH s2
  have S3:=LH s3
  have SL:=LH sl
  have SM:=LH sm
  have SC:=LH sc
  clear s1 s2 s3 s4 sl sm sn sw sv sc
  clear hV hg k1 k2 k3 g41 g42 g45
  go_enter Tryz.func62,Tryz.ntmps62
  go_wp2_with (first
   |(go_at_call 63;(with_reducible refine (S1.out _).mono ?_);rintro e w' ⟨rfl,rfl⟩)
   |(go_at_call 63;(with_reducible refine (S2.out _).mono ?_);rintro e w' ⟨rfl,rfl⟩)
   |(go_at_call 63;(with_reducible refine (S3.out _).mono ?_);rintro e w' ⟨rfl,rfl⟩)
   |(go_at_call 102;(with_reducible refine (SL.out _).mono ?_);rintro e w' ⟨rfl,rfl⟩)
   |(go_at_call 102;(with_reducible refine (SM.out _).mono ?_);rintro e w' ⟨rfl,rfl⟩)
   |(go_at_call 105;(with_reducible refine (SC.out _ ?_).mono ?_);(focus (exact HT.out.below (nl _) bel));rintro e w1 ⟨rfl,hb1⟩;obtain ⟨hc1,hf1⟩:=zA8 hb1;have hz1:=hb1.size;(try simp at hz1);(try simp only [heap_drew,World.heap_drewN] at hz1 hc1 hf1);(try have hs1:=Nat.lt_of_succ_le hz1);(try have hs2:=Nat.lt_of_succ_lt hs1);(try have y0:w.heap.size<w1.heap.size:=by omega);(try have y1:w.heap.size+1<w1.heap.size:=by omega);(try have y2:w.heap.size+2<w1.heap.size:=by omega)))
  go_ret
  exact ⟨rfl,bel⟩
 have u4:(kd==4)=false:=by simpa using k4
 have hVF:V=false:=by rw [hV];exact zA0 fun h=>(by rcases hg.1 h with h |h |h |h;exact k1 h.1;exact k2 h.1;exact k3 h.1;exact k4 h.1)
 subst hVF
 have sw:=sw 1048576
 have S1:=LH s1
 have S2:=LH s2
 have S3:=LH s3
 have SL:=LH sl
 have SM:=LH sm
 clear s1 s2 s3 s4 sl sm sn sw sv sc
 clear hV hg k1 k2 k3 k4
 go_enter Tryz.func62,Tryz.ntmps62
 go_wp2_with (first
  |(go_at_call 63;(with_reducible refine (S1.out _).mono ?_);rintro e w' ⟨rfl,rfl⟩)
  |(go_at_call 63;(with_reducible refine (S2.out _).mono ?_);rintro e w' ⟨rfl,rfl⟩)
  |(go_at_call 63;(with_reducible refine (S3.out _).mono ?_);rintro e w' ⟨rfl,rfl⟩)
  |(go_at_call 102;(with_reducible refine (SL.out _).mono ?_);rintro e w' ⟨rfl,rfl⟩)
  |(go_at_call 102;(with_reducible refine (SM.out _).mono ?_);rintro e w' ⟨rfl,rfl⟩))
 go_ret
 exact ⟨rfl,bel⟩
end Go.Proofs.YtchakniaoeodmaaGreatDoor

/- Merged texts of these proofs: Num, Div, Wide, Cat, Root2, Circ, Circle, Gcd, Dec, Text. -/
import Derived.Lib.ItoaNum
import Derived.Laws.BitsAllLaws
import Derived.Test.YtghefgifhebniaaGreatDoorLeaf
import Derived.Test.YtghefgifhebniaaGreatDoorShelf
import Derived.Deep.QuietTactic
import Derived.BigQuiet
import Derived.IntWalk
import Derived.Deep.CutBlock
import Derived.Deep.CutRange
import Derived.Test.YtghefgifhebniaaGreatDoorBase
import Derived.Laws.Rows
import Derived.Laws.NewBlocks
import Derived.Shelf.Spec.BitsCarry
import Derived.LoopTactic
import Derived.Test.YtghefgifhebniaaGreatDoorTab
import Derived.Test.YtghefgifhebniaaGreatDoorName
import Derived.Test.YtghefgifhebniaaGreatDoorTabTwo
import Derived.Maps.AppendAt
import Derived.Deep.AppendLies
import Derived.Laws.OwnMore
import Derived.OwnWalk
import Derived.Deep.Cut
import Derived.RegionTactic
namespace Go.Proofs.YtghefgifhebniaaGreatDoor.Num
def DInv6 (y1 y0 u d q r:Nat):Prop:=q*y1+r=u∧r<4294967296∧(u*4294967296+d) / (y1*4294967296+y0)≤q∧q≤4294967297
theorem dpos {y1 y0 u d q r:Nat} (hQ:(u*4294967296+d) / (y1*4294967296+y0)<q) (h:DInv6 y1 y0 u d q r):1≤q∧(q - 1)*y1+(r+y1)=u:=by
 obtain ⟨he,_⟩:=h
 have h1:1≤q:=Nat.lt_of_le_of_lt (Nat.zero_le _) hQ
 refine ⟨h1,?_⟩
 obtain ⟨p,rfl⟩:∃p,q=p+1:=⟨q - 1,by omega⟩
 rw [Nat.add_mul] at he
 simp only [Nat.add_sub_cancel];omega
theorem dnext {y1 y0 u d q r:Nat} (h:DInv6 y1 y0 u d q r) (hQ:(u*4294967296+d) / (y1*4294967296+y0)<q) (hr:r+y1<4294967296):DInv6 y1 y0 u d (q - 1) (r+y1):=by
 obtain ⟨h1,h2⟩:=dpos hQ h
 obtain ⟨_,_,_,hq⟩:=h
 exact ⟨h2,hr,by omega,by omega⟩
theorem shifted {a y k:Nat} (hk:0<k):a*k / (y*k)=a / y∧a*k % (y*k)=a % y*k:=by
 exact ⟨Nat.mul_div_mul_right _ _ hk,Nat.mul_mod_mul_right _ _ _⟩
theorem halves (Y:Nat) (h:Y<18446744073709551616):Y / 4294967296<4294967296∧Y % 4294967296<4294967296∧Y / 4294967296*4294967296+Y % 4294967296=Y:=by omega
def isq:Nat→Nat
 |0=>0
 |n+1=>if (isq n+1)*(isq n+1)≤n+1 then isq n+1 else isq n
end Go.Proofs.YtghefgifhebniaaGreatDoor.Num
namespace Go.Proofs.YtghefgifhebniaaGreatDoor
open Go.RowKit
set_option linter.unusedVariables false
set_option linter.unusedSimpArgs false
def csq (n:Nat):Nat:=if Num.isq n*Num.isq n<n then Num.isq n+1 else Num.isq n
end Go.Proofs.YtghefgifhebniaaGreatDoor
namespace Go.Proofs.YtghefgifhebniaaGreatDoor.Circ
def cd (S P i:Nat):Nat:=S*i / P
def cw (S P i:Nat):Nat:=Num.isq (4*cd S P i*(S - cd S P i))
def cs (S P i:Nat):Nat:=cd S P (i+1) - cd S P i
def ch (S P i:Nat):Nat:=((cw S P (i+1) - cw S P i)+(cw S P i - cw S P (i+1))) / 2
def side (S P i:Nat):Nat:=csq (cs S P i*cs S P i+ch S P i*ch S P i)
def ca (S P:Nat):Nat→Nat
 |0=>0
 |i+1=>ca S P i+(cw S P i+cw S P (i+1))*cs S P i / 2
def cp (S P:Nat):Nat→Nat
 |0=>0
 |i+1=>cp S P i+2*side S P i
end Go.Proofs.YtghefgifhebniaaGreatDoor.Circ
namespace Go.Proofs.YtghefgifhebniaaGreatDoor
open Go.RowKit
section
variable {w w':World} {g:Nat} {t:TypeId} {cs:Array Value}
end
def knots (X Y:Nat→Nat) (n:Nat):List Value:=(List.range n).flatMap fun j=>[.int .i64 (X j),.int .i64 (Y j)]
theorem info39:(Tryz.prog.info? 97).map (fun i=>(i.zero,i.size,i.bytes))=some (some (.agg #[.int .i64 0,.int .i64 0]),2,16):=by kernel_rfl
theorem tmod_nat (x y:Nat):Int.tmod (x:Int) (y:Int)=((x % y:Nat):Int):=by
 rw [Int.tmod_eq_emod_of_nonneg (by omega)];rfl
theorem tdiv_nat (x y:Nat):Int.tdiv (x:Int) (y:Int)=((x / y:Nat):Int):=by
 rw [Int.tdiv_eq_ediv_of_nonneg (by omega)];rfl
def dg (d:Nat):ByteArray:=Utf8.encode (((48+d:Nat):Int))
theorem dg_size (d:Nat) (hd:d<10):((dg d).size:Int)≤8388608:=by
 have:d=0∨d=1∨d=2∨d=3∨d=4∨d=5∨d=6∨d=7∨d=8∨d=9:=by omega
 rcases this with rfl |rfl |rfl |rfl |rfl |rfl |rfl |rfl |rfl |rfl<;> decide
theorem rdec_one (d:Nat) (hd:d<10) (w:World):Calls Tryz.prog 157 #[.int .i64 (d:Int)] w fun e w'=>e= .returned (.string (dg d))∧w=w':=by
 have e1:Int.tmod (d:Int) 10=(d:Int):=(tmod_nat d 10).trans (by omega)
 have e1':(d:Int) % 10=(d:Int):=by omega
 obtain ⟨c,hc⟩:∃c,c=48+d:=⟨_,rfl⟩
 have e2:IntKind.i64.wrap (48+(d:Int))=(c:Int):=by rw [IntKind.wrap_i64];omega
 have e3:IntKind.i32.wrap (c:Int)=(c:Int):=by unfold IntKind.wrap;simp [IntKind.bits,IntKind.signed];omega
 have t1:decide ((d:Int)<0)=false:=by simp
 have t2:decide ((10:Int)≤(d:Int))=false:=dF (by omega)
 unfold dg
 rw [←hc]
 clear hd hc
 go_enter Tryz.func157,Tryz.ntmps157
 go_wp2_with fail
 go_ret
 exact ⟨rfl,rfl⟩
def tt (tx:Int→ByteArray) (X Y:Nat→Int):Nat→ByteArray
 |0=>⟨#[]⟩
 |i+1=>(((if 0<i then tt tx X Y i++⟨#[32]⟩ else tt tx X Y i)++tx (X i))++⟨#[58]⟩)++tx (Y i)
theorem tt_size {tx:Int→ByteArray} {X Y:Nat→Int} {n:Nat} (h:∀k,k<n→(tx (X k)).size≤30∧(tx (Y k)).size≤30):∀i,i≤n→(tt tx X Y i).size≤62*i:=by
 intro i
 induction i with
 |zero=>intro _;exact nl _
 |succ i ih=>
  intro hi
  have:=ih (by omega)
  have h1:=h i (by omega)
  simp only [tt]
  split<;> simp only [ByteArray.size_append]<;> (show _≤_;simp only [show (⟨#[32]⟩:ByteArray).size=1 from rfl,show (⟨#[58]⟩:ByteArray).size=1 from rfl];omega)
set_option maxHeartbeats 2000000 in
theorem rtext (b off n c:Nat) (X Y:Nat→Int) (tx:Int→ByteArray) (w:World) (h2:n≤100) (ht:TabAt w b off n X Y)
 (hX:∀k,k<n→∀w,Calls Tryz.prog 157 #[.int .i64 (X k)] w fun e w'=>e= .returned (.string (tx (X k)))∧w=w')
 (hY:∀k,k<n→∀w,Calls Tryz.prog 157 #[.int .i64 (Y k)] w fun e w'=>e= .returned (.string (tx (Y k)))∧w=w')
 (hs:∀k,k<n→(tx (X k)).size≤30∧(tx (Y k)).size≤30):
 Calls Tryz.prog 127 #[.slice (some ⟨b,off,none⟩) n c] w fun e w'=>e= .returned (.string (tt tx X Y n))∧Below w.heap.size w w':=by
 have HT:=LH ht
 have H2:=LH h2
 have HX:=LH hX
 have HY:=LH hY
 have HS:=LH hs
 have hb:=ht.1
 clear ht h2 hX hY hs
 go_enter Tryz.func127,Tryz.ntmps127
 go_wp2_with fail
 go_loopw [3,4] (fun u v wr=>∃i:Nat,Hid (i≤n)∧u= .string (tt tx X Y i)∧v= .int .i64 i∧Hid (Below w.heap.size w wr)) (fun _ v _=>n - (intOf v).toNat)
 case atStart=>exact ⟨0,Nat.zero_le _,rfl,rfl,bR _ _⟩
 case round=>
  obtain ⟨i,Hi,rfl,rfl,HW⟩:=hrel
  by_cases hlt:i<n
  ·have T0:decide ((i:Int)<(n:Int))=true:=by simp<;> omega
   have T0':decide (i<n)=true:=dT hlt
   obtain ⟨i',hi'⟩:∃z,z=i+1:=⟨_,rfl⟩
   have x0:IntKind.i64.wrap ((i:Int)+1)=(i':Int):=by have:=H2.out;rw [IntKind.wrap_i64];omega
   have HI':Hid (i'≤n):=by show i'≤n;omega
   have HMS:Hid (n - (intOf (Value.int .i64 (i':Int))).toNat<n - (intOf (Value.int .i64 (i:Int))).toNat):=by show _<_;simp [intOf];omega
   have HTr:=HT.out.below HW.out hb
   have hx1:=(HTr.2 i hlt).1
   have hy1:=(HTr.2 i hlt).2
   have k0:(0:Int)≤(i:Int):=by omega
   have k1:(i:Int)<(n:Int):=by omega
   have CX:=LH (HX.out i hlt)
   have CY:=LH (HY.out i hlt)
   have hsz:=tt_size HS.out i (by omega)
   have hs1:=HS.out i hlt
   have h2:=H2.out
   have HE:Hid (tt tx X Y i'=(((if 0<i then tt tx X Y i++⟨#[32]⟩ else tt tx X Y i)++tx (X i))++⟨#[58]⟩)++tx (Y i)):=by rw [hi'];exact rfl
   obtain ⟨s,hs⟩:∃z,z=tt tx X Y i:=⟨_,rfl⟩
   obtain ⟨a,ha⟩:∃z,z=tx (X i):=⟨_,rfl⟩
   obtain ⟨d,hd⟩:∃z,z=tx (Y i):=⟨_,rfl⟩
   rw [←hs,←ha,←hd] at HE
   rw [←ha] at CX
   rw [←hd] at CY
   rw [←hs]
   rw [←ha,←hd] at hs1
   rw [←hs] at hsz
   have z1:(s.size:Int)≤8388608:=by omega
   have z2:(a.size:Int)≤8388608:=by omega
   have z3:(d.size:Int)≤8388608:=by omega
   by_cases h0:0<i
   ·have t1:decide (0<i)=true:=dT h0
    rw [if_pos h0] at HE
    have z0:((s++⟨#[32]⟩:ByteArray).size:Int)≤8388608:=by rw [ByteArray.size_append,show (⟨#[32]⟩:ByteArray).size=1 from rfl];omega
    generalize hr:(s++⟨#[32]⟩:ByteArray)=r at*
    have z4:((r++a:ByteArray).size:Int)≤8388608:=by rw [ByteArray.size_append,←hr,ByteArray.size_append,show (⟨#[32]⟩:ByteArray).size=1 from rfl];omega
    have z5:(((r++a)++⟨#[58]⟩:ByteArray).size:Int)≤8388608:=by rw [ByteArray.size_append,ByteArray.size_append,←hr,ByteArray.size_append,show (⟨#[32]⟩:ByteArray).size=1 from rfl,show (⟨#[58]⟩:ByteArray).size=1 from rfl];omega
    clear hi' h0 hs ha hd hsz hs1 HTr h2 hlt
    go_wp2_with fail
    go_quiet ((go_at_call 157;first |(with_reducible exact zF0 (CX.out _))|(with_reducible exact zF0 (CY.out _))))
    go_wp2_with fail
    go_roundw
    case rel=>exact ⟨i',HI',by rw [HE.out],rfl,zA7 HW.out _⟩
    case measure=>exact HMS.out
   ·have t1:decide (0<i)=false:=dF h0
    rw [if_neg h0] at HE
    have z4:((s++a:ByteArray).size:Int)≤8388608:=by rw [ByteArray.size_append];omega
    have z5:(((s++a)++⟨#[58]⟩:ByteArray).size:Int)≤8388608:=by rw [ByteArray.size_append,ByteArray.size_append,show (⟨#[58]⟩:ByteArray).size=1 from rfl];omega
    clear hi' h0 hs ha hd hsz hs1 HTr h2 hlt
    go_wp2_with fail
    go_quiet ((go_at_call 157;first |(with_reducible exact zF0 (CX.out _))|(with_reducible exact zF0 (CY.out _))))
    go_wp2_with fail
    go_roundw
    case rel=>exact ⟨i',HI',by rw [HE.out],rfl,zA7 HW.out _⟩
    case measure=>exact HMS.out
  ·have e:i=n:=by have:=Hi.out;omega
   subst e
   have T0':decide (i<i)=false:=dF (Nat.lt_irrefl i)
   clear hlt
   go_wp2_with fail
   go_ret
   exact ⟨rfl,HW.out⟩
end Go.Proofs.YtghefgifhebniaaGreatDoor

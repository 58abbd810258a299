/- Merged texts of these proofs: Kl, Kt. -/
import Derived.Test.YtghefgifhebniaaGreatDoorTab
namespace Go.Proofs.YtghefgifhebniaaGreatDoor
open Go.RowKit
set_option linter.unusedVariables false
set_option linter.unusedSimpArgs false
def kc (L:List (Int×Int)):List Value:=L.flatMap fun p=>[.int .i64 p.1,.int .i64 p.2]
def kX (L:List (Int×Int)) (k:Nat):Int:=(L.getD k (0,0)).1
def kY (L:List (Int×Int)) (k:Nat):Int:=(L.getD k (0,0)).2
theorem zL8 (L M:List (Int×Int)):kc (L++M)=kc L++kc M:=by unfold kc;rw [List.flatMap_append]
theorem kc_len (L:List (Int×Int)):(kc L).length=L.length*2:=by
 induction L with
 |nil=>rfl
 |cons p L ih=>show (kc ([p]++L)).length=_;rw [zL8,List.length_append,ih];simp [kc];omega
theorem kc_at (L:List (Int×Int)) (k:Nat) (h:k<L.length):(kc L)[k*2]?=some (.int .i64 (kX L k))∧(kc L)[k*2+1]?=some (.int .i64 (kY L k)):=by
 induction L generalizing k with
 |nil=>simp at h
 |cons p L ih=>
  cases k with
  |zero=>exact ⟨rfl,rfl⟩
  |succ k=>
   have:=ih k (by simp at h;omega)
   have e1:(k+1)*2=k*2+1+1:=by omega
   rw [e1]
   exact this
theorem tab_of_kc {w:World} {base g cap:Nat} {t:TypeId} {L:List (Int×Int)} (h:w.ownsRow base t 2 (.slice (some ⟨g,0,none⟩) L.length cap) L.length (kc L)):TabAt w g 0 L.length (kX L) (kY L):=by
 refine ⟨(h.lt g rfl).2,fun k hk=>?_⟩
 obtain ⟨h1,h2⟩:=kc_at L k hk
 rw [Nat.zero_add]
 exact ⟨(h.cellAt (k*2) (by omega)).trans h1,(h.cellAt (k*2+1) (by omega)).trans h2⟩
theorem h63_le {n:Nat} (h:n≤300):n+1≤maxLen:=by simp only [maxLen];omega
theorem hby_le {n:Nat} (h:n≤300):(n+1)*16≤140737488355328:=by omega
theorem info39:(Tryz.prog.info? 97).map (fun i=>(i.zero,i.size,i.bytes))=some (some (.agg #[.int .i64 0,.int .i64 0]),2,16):=by kernel_rfl
def tl (n:Nat) (X Y:Nat→Int):List (Int×Int):=(List.range n).map fun k=>(X k,Y k)
theorem tl_len (n:Nat) (X Y:Nat→Int):(tl n X Y).length=n:=by simp [tl]
theorem tl_at {n k:Nat} {X Y:Nat→Int} (h:k<n):kX (tl n X Y) k=X k∧kY (tl n X Y) k=Y k:=by
 unfold kX kY tl
 simp [List.getD,h]
theorem tl_succ (n:Nat) (X Y:Nat→Int):tl (n+1) X Y=tl n X Y++[(X n,Y n)]:=by unfold tl;rw [List.range_succ,List.map_append];rfl
end Go.Proofs.YtghefgifhebniaaGreatDoor

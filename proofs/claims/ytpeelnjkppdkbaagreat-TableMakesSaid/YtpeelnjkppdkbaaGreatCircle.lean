/- Merged: Name, Curve, Sec, Cat, Root2, Circ, Circle. -/
import Derived.Test.YtpeelnjkppdkbaaGreatLeaf
import Derived.Lib.Strings
import Derived.LoopTactic
import Derived.Test.YtpeelnjkppdkbaaGreatTabTwo
import Derived.Test.YtpeelnjkppdkbaaGreatWide
import Derived.Test.YtpeelnjkppdkbaaGreatTab
import Derived.Maps.AppendAt
import Derived.Deep.AppendLies
import Derived.Laws.OwnMore
import Derived.OwnWalk
import Derived.Deep.CutRange
import Derived.Deep.Cut
namespace Go.Proofs.YtpeelnjkppdkbaaGreat
open Go.RowKit
set_option linter.unusedVariables false
set_option linter.unusedSimpArgs false

def wchB (c : Int) : Bool := letB c || digB c || c == 95
def wlen (l : List UInt8) : Nat := (l.takeWhile fun c => wchB (c.toNat : Int)).length
theorem takeWhile_len (p : UInt8 → Bool) : ∀ (l : List UInt8) (k : Nat), k ≤ l.length → (∀ j, j < k → p (l.getD j 0) = true) → (k < l.length → p (l.getD k 0) = false) → (l.takeWhile p).length = k := by
  intro l
  induction l with
  | nil => intro k hk _ _; simp at hk; subst hk; rfl
  | cons a l ih =>
    intro k hk h1 h2
    cases k with
    | zero => have h := h2 (by simp); simp at h; simp [List.takeWhile_cons, h]
    | succ k =>
      have h := h1 0 (by omega)
      simp at h
      simp [List.takeWhile_cons, h]
      refine ih k (by simpa using hk) (fun j hj => ?_) (fun hk' => ?_)
      · simpa using h1 (j + 1) (by omega)
      · simpa using h2 (by simpa using hk')
theorem getD_byte (s : ByteArray) (k : Nat) (h : k < s.size) : s.data.toList.getD k 0 = s[k] := by
  have : k < s.data.toList.length := by simpa using h
  simp [List.getD, h]; rfl
def Upto (s : ByteArray) (k : Nat) : Prop := ∀ j, j < k → wchB ((s.data.toList.getD j 0).toNat : Int) = true
theorem upto_step {s : ByteArray} {k : Nat} (h : Upto s k) (hk : k < s.size) (hc : wchB (s[k].toNat : Int) = true) : Upto s (k + 1) := fun j hj => by
  rcases Nat.lt_succ_iff_lt_or_eq.1 hj with h1 | rfl
  · exact h j h1
  · rw [getD_byte s j hk]; exact hc
theorem wlen_of {s : ByteArray} {k : Nat} (hk : k ≤ s.size) (h : Upto s k) (hc : ∀ h : k < s.size, wchB (s[k].toNat : Int) = false) : wlen s.data.toList = k :=
  takeWhile_len _ _ k (by simpa using hk) h (fun h' => by have h2 : k < s.size := by simpa using h'
                                                          rw [getD_byte s k h2]; exact hc h2)

def nameB (l : List UInt8) : Bool := decide (0 < l.length) && decide (l.length ≤ 20) && letB ((l.getD 0 0).toNat : Int) && decide (wlen l = l.length)
theorem size_data (s : ByteArray) : s.data.toList.length = s.size := rfl
end Go.Proofs.YtpeelnjkppdkbaaGreat

namespace Go.Proofs.YtpeelnjkppdkbaaGreat
open Go.RowKit
set_option linter.unusedVariables false
set_option linter.unusedSimpArgs false

def CurveOK (n : Nat) (X Y : Nat → Int) (h most : Int) : Prop := TabOK n X Y ∧ X 0 = 0 ∧ Y 0 = 0 ∧ X (n - 1) = h ∧ Y (n - 1) ≤ most
noncomputable def boolOf (p : Prop) : Bool := @decide p (Classical.propDecidable p)
theorem boolOf_true {p : Prop} (h : p) : boolOf p = true := by unfold boolOf; exact @decide_eq_true _ (Classical.propDecidable _) h
theorem boolOf_false {p : Prop} (h : ¬ p) : boolOf p = false := by unfold boolOf; exact @decide_eq_false _ (Classical.propDecidable _) h
theorem boolOf_eq {b : Bool} {p : Prop} (h : b = true ↔ p) : b = boolOf p := by
  by_cases hp : p
  · rw [boolOf_true hp, h.2 hp]
  · rw [boolOf_false hp]; cases b with
    | false => rfl
    | true => exact absurd (h.1 rfl) hp
theorem of_boolOf {p : Prop} (h : boolOf p = true) : p := Classical.byContradiction fun hn => by rw [boolOf_false hn] at h; cases h
theorem not_boolOf {p : Prop} (h : boolOf p = false) : ¬ p := fun hp => by rw [boolOf_true hp] at h; cases h

end Go.Proofs.YtpeelnjkppdkbaaGreat

namespace Go.Proofs.YtpeelnjkppdkbaaGreat
open Go.RowKit
set_option linter.unusedVariables false
set_option linter.unusedSimpArgs false

def SecOK (nm : List UInt8) (h p : Int) (na : Nat) (AX AY : Nat → Int) (nc : Nat) (CX CY : Nat → Int) : Prop :=
  nameB nm = true ∧ 1 ≤ h ∧ h ≤ 32768 ∧ 0 ≤ p ∧ p ≤ 1073741824 ∧ CurveOK na AX AY h 1073741824 ∧ CurveOK nc CX CY h 1099511627776
theorem iff_boolOf {b : Bool} {p : Prop} (h : b = boolOf p) : p ↔ b = true := by
  rw [h]; exact ⟨boolOf_true, of_boolOf⟩

end Go.Proofs.YtpeelnjkppdkbaaGreat

namespace Go.Proofs.YtpeelnjkppdkbaaGreat
open Go.RowKit
set_option linter.unusedVariables false
set_option linter.unusedSimpArgs false

theorem u64_of_nat (a : Nat) (ha : a < 9223372036854775808) : IntKind.u64.wrap (a : Int) = (a : Int) := Half.wrapN _ (by omega)
theorem mul_parts {z n : Nat} (h : z * n < 340282366920938463463374607431768211456) :
    (z % 18446744073709551616 * n) % 18446744073709551616 = (z * n) % 18446744073709551616 ∧
    (z % 18446744073709551616 * n) / 18446744073709551616 + z / 18446744073709551616 * n = (z * n) / 18446744073709551616 ∧ z / 18446744073709551616 * n < 18446744073709551616 ∧ (z * n) / 18446744073709551616 < 18446744073709551616 := by
  have e : z * n = z / 18446744073709551616 * n * 18446744073709551616 + z % 18446744073709551616 * n := by
    have := Nat.div_add_mod' z 18446744073709551616
    rw [Nat.mul_right_comm, ← Nat.add_mul, this]
  generalize z / 18446744073709551616 * n = A at *
  generalize z % 18446744073709551616 * n = B at *
  generalize z * n = P at *
  subst e
  refine ⟨by omega, by omega, by omega, by omega⟩
theorem over_parts {z n : Nat} (hn : 0 < n) :
    hi64 (z / n) = ((z / 18446744073709551616 / n : Nat) : Int) ∧ lo64 (z / n) = (((z / 18446744073709551616 % n * 18446744073709551616 + z % 18446744073709551616) / n : Nat) : Int) := by
  obtain ⟨h1, _⟩ := Num.two_digits (N := z) (n := z / 18446744073709551616) (d0 := z % 18446744073709551616) (B := 18446744073709551616) hn (Nat.div_add_mod' _ _).symm
  have h2 : (z / 18446744073709551616 % n * 18446744073709551616 + z % 18446744073709551616) / n < 18446744073709551616 :=
    Num.quot_lt (Nat.mod_lt _ hn) (Nat.mod_lt _ (by omega)) rfl
  unfold hi64 lo64
  generalize (z / 18446744073709551616 % n * 18446744073709551616 + z % 18446744073709551616) / n = q at *
  generalize z / 18446744073709551616 / n = p at *
  generalize z / n = r at *
  subst h1
  constructor <;> congr 1 <;> omega
/-- The search for a root, bit by bit: j bits are still to be asked. -/
def RInv (x j r : Nat) : Prop := r * r ≤ x ∧ x < (r + 2 ^ j) * (r + 2 ^ j) ∧ r % 2 ^ j = 0
theorem rinv_start {x : Nat} (h : x < 85070591730234615865843651857942052864) : RInv x 63 0 := by
  refine ⟨by omega, ?_, rfl⟩
  simpa using h
theorem rinv_bound {x j r : Nat} (h : x < 85070591730234615865843651857942052864) (hi : RInv x j r) : r < 9223372036854775808 :=
  Num.sq_lt (Nat.lt_of_le_of_lt hi.1 (by simpa using h))
theorem rinv_add {x j r : Nat} (hi : RInv x (j + 1) r) : r % 2 ^ j = 0 ∧ (r + 2 ^ j) % 2 ^ j = 0 := by
  have h := hi.2.2
  rw [Nat.pow_succ] at h
  have : r % 2 ^ j = 0 := by
    have h2 := Nat.mod_mul_right_mod r (2 ^ j) 2
    rw [h] at h2
    simpa using h2.symm
  exact ⟨this, by rw [Nat.add_mod_right]; exact this⟩
theorem rinv_yes {x j r : Nat} (hi : RInv x (j + 1) r) (h : (r + 2 ^ j) * (r + 2 ^ j) ≤ x) : RInv x j (r + 2 ^ j) := by
  refine ⟨h, ?_, (rinv_add hi).2⟩
  have := hi.2.1
  rw [Nat.pow_succ] at this
  rw [Nat.add_assoc]
  rwa [Nat.mul_two] at this
theorem rinv_no {x j r : Nat} (hi : RInv x (j + 1) r) (h : x < (r + 2 ^ j) * (r + 2 ^ j)) : RInv x j r := ⟨hi.1, h, (rinv_add hi).1⟩
theorem rinv_end {x r : Nat} (hi : RInv x 0 r) : r = Num.isq x := Num.isq_eq hi.1 (by simpa using hi.2.1)

end Go.Proofs.YtpeelnjkppdkbaaGreat

namespace Go.Proofs.YtpeelnjkppdkbaaGreat
open Go.RowKit
set_option linter.unusedVariables false
set_option linter.unusedSimpArgs false

/-- The root, rounded up. -/
def csq (n : Nat) : Nat := if Num.isq n * Num.isq n < n then Num.isq n + 1 else Num.isq n
end Go.Proofs.YtpeelnjkppdkbaaGreat

namespace Go.Proofs.YtpeelnjkppdkbaaGreat.Circ

def cd (S P i : Nat) : Nat := S * i / P
def cw (S P i : Nat) : Nat := Num.isq (4 * cd S P i * (S - cd S P i))
def cs (S P i : Nat) : Nat := cd S P (i + 1) - cd S P i
def ch (S P i : Nat) : Nat := ((cw S P (i + 1) - cw S P i) + (cw S P i - cw S P (i + 1))) / 2
def side (S P i : Nat) : Nat := csq (cs S P i * cs S P i + ch S P i * ch S P i)
def ca (S P : Nat) : Nat → Nat
  | 0 => 0
  | i + 1 => ca S P i + (cw S P i + cw S P (i + 1)) * cs S P i / 2
def cp (S P : Nat) : Nat → Nat
  | 0 => 0
  | i + 1 => cp S P i + 2 * side S P i
def ck (S P : Nat) : Nat → Nat
  | 0 => 0
  | i + 1 => max (ck S P i) (Num.isq (ca S P (i + 1) * ca S P (i + 1) * (5 * ca S P (i + 1)) / (2 * cp S P (i + 1))))

set_option linter.unusedVariables false
theorem cd_le {S P : Nat} (h2 : 2 ≤ P) (hPS : P ≤ S) {i : Nat} (hi : i ≤ P) : cd S P i ≤ S := by
  unfold cd
  apply Nat.div_le_of_le_mul
  rw [Nat.mul_comm]
  exact Nat.mul_le_mul_right S hi
theorem cd_step {S P : Nat} (h2 : 2 ≤ P) (hPS : P ≤ S) (i : Nat) : cd S P i + 1 ≤ cd S P (i + 1) := by
  unfold cd
  rw [Nat.mul_succ, Nat.le_div_iff_mul_le (by omega), Nat.add_mul]
  have := Nat.div_mul_le_self (S * i) P
  omega
theorem cd_zero {S P : Nat} (h2 : 2 ≤ P) (hPS : P ≤ S) : cd S P 0 = 0 := by simp [cd]
theorem cd_last {S P : Nat} (h2 : 2 ≤ P) (hPS : P ≤ S) : cd S P P = S := by unfold cd; exact Nat.mul_div_cancel _ (by omega)
theorem four_mul_le (d e : Nat) : 4 * d * e ≤ (d + e) * (d + e) := by
  rcases Nat.le_total d e with h | h
  · obtain ⟨t, rfl⟩ := Nat.le.dest h
    have e1 : (d + (d + t)) * (d + (d + t)) = 4 * d * (d + t) + t * t := by
      simp only [Nat.add_mul, Nat.mul_add]
      have : 4 * d * d = d * d + d * d + d * d + d * d := by rw [Nat.mul_assoc]; omega
      have : 4 * d * t = d * t + d * t + d * t + d * t := by rw [Nat.mul_assoc]; omega
      have : t * d = d * t := Nat.mul_comm _ _
      omega
    omega
  · obtain ⟨t, rfl⟩ := Nat.le.dest h
    have e1 : (e + t + e) * (e + t + e) = 4 * (e + t) * e + t * t := by
      simp only [Nat.add_mul, Nat.mul_add]
      have : 4 * e * e = e * e + e * e + e * e + e * e := by rw [Nat.mul_assoc]; omega
      have : 4 * t * e = t * e + t * e + t * e + t * e := by rw [Nat.mul_assoc]; omega
      have : e * t = t * e := Nat.mul_comm _ _
      omega
    omega
theorem cw_le {S P : Nat} (h2 : 2 ≤ P) (hPS : P ≤ S) {i : Nat} (hi : i ≤ P) : cw S P i ≤ S := by
  have h := cd_le h2 hPS hi
  have h4 := four_mul_le (cd S P i) (S - cd S P i)
  rw [Nat.add_sub_cancel' h] at h4
  have : Num.isq (4 * cd S P i * (S - cd S P i)) < S + 1 := Num.isq_lt (by
    have : (S + 1) * (S + 1) = S * S + 2 * S + 1 := by rw [Nat.add_mul, Nat.mul_add]; omega
    omega)
  unfold cw; omega
theorem ca_le {S P : Nat} (h2 : 2 ≤ P) (hPS : P ≤ S) {i : Nat} (hi : i ≤ P) : ca S P i ≤ S * cd S P i := by
  induction i with
  | zero => simp [ca]
  | succ i ih =>
    have h1 := ih (by omega)
    have h3 := cw_le h2 hPS (by omega : i ≤ P)
    have h4 := cw_le h2 hPS hi
    have h5 := cd_step h2 hPS i
    have h6 : (cw S P i + cw S P (i + 1)) * cs S P i ≤ (2 * S) * cs S P i := Nat.mul_le_mul_right _ (by omega)
    have h7 : S * cd S P (i + 1) = S * cd S P i + S * cs S P i := by rw [← Nat.mul_add]; congr 1; unfold cs; omega
    rw [Nat.mul_assoc] at h6
    unfold ca
    omega
theorem csq_ge (s h : Nat) : s ≤ csq (s * s + h * h) := by
  have : s ≤ Num.isq (s * s + h * h) := Num.le_isq (Nat.le_add_right _ _)
  unfold csq
  split <;> omega
theorem csq_le (s h : Nat) : csq (s * s + h * h) ≤ s + h + 1 := by
  have : Num.isq (s * s + h * h) < s + h + 1 := Num.isq_lt (by
    have : (s + h + 1) * (s + h + 1) = s * s + h * h + 2 * (s * h) + 2 * s + 2 * h + 1 := by
      simp only [Nat.add_mul, Nat.mul_add]
      have : h * s = s * h := Nat.mul_comm _ _
      omega
    omega)
  unfold csq
  split <;> omega
theorem ch_le {S P : Nat} (h2 : 2 ≤ P) (hPS : P ≤ S) {i : Nat} (hi : i + 1 ≤ P) : ch S P i ≤ S := by
  have h3 := cw_le h2 hPS (by omega : i ≤ P)
  have h4 := cw_le h2 hPS hi
  unfold ch; omega
theorem cs_le {S P : Nat} (h2 : 2 ≤ P) (hPS : P ≤ S) {i : Nat} (hi : i + 1 ≤ P) : cs S P i ≤ S := by
  have h3 := cd_le h2 hPS hi
  unfold cs; omega
theorem side_le {S P : Nat} (h2 : 2 ≤ P) (hPS : P ≤ S) {i : Nat} (hi : i + 1 ≤ P) : cs S P i ≤ side S P i ∧ side S P i ≤ 2 * S + 1 := by
  have h3 := cs_le h2 hPS hi
  have h4 := ch_le h2 hPS hi
  have h5 := csq_le (cs S P i) (ch S P i)
  exact ⟨csq_ge _ _, by unfold side; omega⟩
theorem cp_le {S P : Nat} (h2 : 2 ≤ P) (hPS : P ≤ S) {i : Nat} (hi : i ≤ P) : 2 * cd S P i ≤ cp S P i ∧ cp S P i ≤ i * (4 * S + 2) := by
  induction i with
  | zero => simp [cp, cd]
  | succ i ih =>
    have h1 := ih (by omega)
    have h3 := side_le h2 hPS hi
    have h5 := cd_step h2 hPS i
    have h6 : cs S P i = cd S P (i + 1) - cd S P i := rfl
    have h7 : (i + 1) * (4 * S + 2) = i * (4 * S + 2) + (4 * S + 2) := Nat.succ_mul _ _
    unfold cp
    omega
theorem ca_bound {S P : Nat} (h2 : 2 ≤ P) (hPS : P ≤ S) (hS : S ≤ 32768) {i : Nat} (hi : i ≤ P) : ca S P i ≤ 1073741824 ∧ ca S P i ≤ 32768 * cd S P i := by
  have h1 := ca_le h2 hPS hi
  have h3 := cd_le h2 hPS hi
  have h4 : S * cd S P i ≤ 32768 * 32768 := Nat.mul_le_mul hS (by omega)
  have h5 : S * cd S P i ≤ 32768 * cd S P i := Nat.mul_le_mul_right _ hS
  omega
theorem cubes {S P : Nat} (h2 : 2 ≤ P) (hPS : P ≤ S) (hS : S ≤ 32768) {i : Nat} (hi : i ≤ P) : ca S P i * ca S P i ≤ 1152921504606846976 ∧ ca S P i * ca S P i * (5 * ca S P i) ≤ 1152921504606846976 * (5 * (32768 * cd S P i)) ∧ ca S P i * ca S P i * (5 * ca S P i) ≤ 1152921504606846976 * 5368709120 := by
  obtain ⟨h1, h3⟩ := ca_bound h2 hPS hS hi
  have h4 : ca S P i * ca S P i ≤ 1073741824 * 1073741824 := Nat.mul_le_mul h1 h1
  exact ⟨h4, Nat.mul_le_mul h4 (by omega), Nat.mul_le_mul h4 (by omega)⟩
theorem ck_new {S P : Nat} (h2 : 2 ≤ P) (hPS : P ≤ S) (hS : S ≤ 32768) {i : Nat} (hi : i + 1 ≤ P) : Num.isq (ca S P (i + 1) * ca S P (i + 1) * (5 * ca S P (i + 1)) / (2 * cp S P (i + 1))) < 274877906944 := by
  obtain ⟨_, h1, _⟩ := cubes h2 hPS hS hi
  have h3 := (cp_le h2 hPS hi).1
  have h4 := cd_step h2 hPS i
  apply Num.isq_lt
  rw [Nat.div_lt_iff_lt_mul (by omega)]
  omega
theorem ck_bound {S P : Nat} (h2 : 2 ≤ P) (hPS : P ≤ S) (hS : S ≤ 32768) {i : Nat} (hi : i ≤ P) : ck S P i < 274877906944 := by
  induction i with
  | zero => simp [ck]
  | succ i ih =>
    have := ih (by omega)
    have := ck_new h2 hPS hS hi
    unfold ck
    omega
end Go.Proofs.YtpeelnjkppdkbaaGreat.Circ

namespace Go.Proofs.YtpeelnjkppdkbaaGreat
open Go.RowKit
set_option linter.unusedVariables false
set_option linter.unusedSimpArgs false

def Blk (w : World) (g : Nat) (t : TypeId) (cs : Array Value) : Prop := w.heap[g]? = some (.cells cs t (0, 0))
section
variable {w w' : World} {g : Nat} {t : TypeId} {cs : Array Value}
theorem Blk.lt (h : Blk w g t cs) : g < w.heap.size := by
  rcases Nat.lt_or_ge g w.heap.size with hlt | hge
  · exact hlt
  · unfold Blk at h; rw [Array.getElem?_eq_none hge] at h; cases h
theorem Blk.cell (h : Blk w g t cs) (i : Nat) : w.cell? ⟨g, i, none⟩ = cs[i]? := cell_of_row w g i cs t (0, 0) h
theorem Blk.frozen (h : Blk w g t cs) (i : Nat) : w.frozen? ⟨g, i, none⟩ = false := by
  unfold Blk at h
  simp [World.frozen?, h]
theorem Blk.new (w : World) (t : TypeId) (cs : Array Value) : Blk (w.alloc (.cells cs t)) w.heap.size t cs := heap_alloc_new w _
theorem Blk.drewN (h : Blk w g t cs) (n : Nat) : Blk (w.drewN n) g t cs := h
theorem Blk.alloc (h : Blk w g t cs) (o : Obj) : Blk (w.alloc o) g t cs := (Below.heap_alloc w o g h.lt).trans h
theorem Blk.set_ (h : Blk w g t cs) (i : Nat) (u : Value) : Blk (w.setCell ⟨g, i, none⟩ u) g t (cs.setIfInBounds i u) := by
  unfold Blk at h ⊢
  simp [World.setCell, Array.getElem?_modify, h]
theorem Blk.far (h : Blk w g t cs) {p : Addr} (hp : g ≠ p.block) (u : Value) : Blk (w.setCell p u) g t cs := (Below.heap_setCell w p u g hp).trans h
theorem Blk.below {B : Nat} (h : Blk w g t cs) (hb : Below B w w') (hg : g < B) : Blk w' g t cs := (hb.block g hg).trans h
theorem Blk.grown {row : Option Nat} (h : Blk w g t cs) (hb : w.grownBy w' row) (hg : some g ≠ row) : Blk w' g t cs := (hb.block g h.lt hg).trans h
theorem Blk.ne_ {g' : Nat} {t' : TypeId} {cs' : Array Value} (h : Blk w g t cs) (h' : Blk w g' t' cs') (hne : t ≠ t') : g ≠ g' := by
  rintro rfl
  unfold Blk at h h'
  rw [h] at h'
  injection h' with h'
  injection h' with _ ht
  exact hne ht
theorem own_blk_ne {base : Nat} {e : TypeId} {size n : Nat} {v : Value} {xs : List Value} (h : w.ownsRow base e size v n xs) (hg : Blk w g t cs) (hne : e ≠ t) : v.ownBlock ≠ some g := by
  rcases h.2 with ⟨rfl, _⟩ | ⟨g', cap, cur, rfl, _, hh, _⟩
  · simp [Value.ownBlock]
  · intro he
    have : g' = g := by simpa [Value.ownBlock] using he
    subst this
    exact Blk.ne_ (t := e) hh hg hne rfl
end
theorem only_of_below {a w : World} (h : Below a.heap.size a w) (row : Option Nat) : a.grownBy w row := ⟨h.os, h.tape, h.output, h.size, fun i hi _ => h.block i hi⟩
theorem own_below {w w' : World} {base : Nat} {e : TypeId} {size n : Nat} {v : Value} {xs : List Value} (h : w.ownsRow base e size v n xs) (hb : Below w.heap.size w w') : w'.ownsRow base e size v n xs := by
  refine h.kept (only_of_below hb none) ?_
  cases hv : v.ownBlock with
  | none => exact .inl rfl
  | some g => exact .inr (by simp)

def knots (X Y : Nat → Nat) (n : Nat) : List Value := (List.range n).flatMap fun j => [.int .i64 (X j), .int .i64 (Y j)]
theorem knots_succ (X Y : Nat → Nat) (n : Nat) : knots X Y (n + 1) = knots X Y n ++ [.int .i64 (X n), .int .i64 (Y n)] := by
  unfold knots; rw [List.range_succ, List.flatMap_append]; simp
theorem knots_len (X Y : Nat → Nat) (n : Nat) : (knots X Y n).length = n * 2 := by
  induction n with
  | zero => rfl
  | succ n ih => rw [knots_succ, List.length_append, ih]; simp; omega
theorem knots_at (X Y : Nat → Nat) (n k : Nat) (h : k < n) : (knots X Y n)[k * 2]? = some (.int .i64 (X k)) ∧ (knots X Y n)[k * 2 + 1]? = some (.int .i64 (Y k)) := by
  induction n with
  | zero => omega
  | succ n ih =>
    rw [knots_succ]
    rcases Nat.lt_or_ge k n with h1 | h1
    · rw [List.getElem?_append_left (by rw [knots_len]; omega), List.getElem?_append_left (by rw [knots_len]; omega)]
      exact ih h1
    · have : k = n := by omega
      subst this
      rw [List.getElem?_append_right (by rw [knots_len]; omega), List.getElem?_append_right (by rw [knots_len]; omega), knots_len]
      simp
theorem tab_of_own {w : World} {base g cap n : Nat} {t : TypeId} {X Y : Nat → Nat} (h : w.ownsRow base t 2 (.slice (some ⟨g, 0, none⟩) n cap) n (knots X Y n)) : TabAt w g 0 n (fun k => X k) (fun k => Y k) := by
  refine ⟨(h.lt g rfl).2, fun k hk => ?_⟩
  obtain ⟨h1, h2⟩ := knots_at X Y n k hk
  rw [Nat.zero_add]
  exact ⟨(h.cellAt (k * 2) (by omega)).trans h1, (h.cellAt (k * 2 + 1) (by omega)).trans h2⟩

theorem info39 : (Tryz.prog.info? 47).map (fun i => (i.zero, i.size, i.bytes)) = some (some (.agg #[.int .i64 0, .int .i64 0]), 2, 16) := by kernel_rfl

theorem w64_id {x : Int} (h1 : -9223372036854775808 ≤ x) (h2 : x ≤ 9223372036854775807) : wrap64 x = x := by unfold wrap64; omega
theorem w_id {x y : Int} (h1 : -9223372036854775808 ≤ x) (h2 : x ≤ 9223372036854775807) (h : x = y) : IntKind.i64.wrap x = y := by rw [IntKind.wrap_i64]; omega
theorem heap_alloc_set (w : World) (p : Addr) (u : Value) (o : Obj) : ((w.setCell p u).alloc o).heap[w.heap.size]? = some o := by
  have h := heap_alloc_new (w.setCell p u) o
  have e : (w.setCell p u).heap.size = w.heap.size := by simp [World.setCell]
  rwa [e] at h
theorem own_setCell {w : World} {base : Nat} {e : TypeId} {size n : Nat} {v : Value} {xs : List Value} {p : Addr} (h : w.ownsRow base e size v n xs) (hne : v.ownBlock ≠ some p.block) (u : Value) : (w.setCell p u).ownsRow base e size v n xs :=
  h.kept (row := some p.block) ⟨rfl, rfl, rfl, by simp [World.setCell], fun i hi hne' => Below.heap_setCell w p u i (fun e => hne' (by rw [e]))⟩ (.inr hne)
theorem add_w {a b c : Nat} (h : c = a + b) (hc : c ≤ 9223372036854775807) : IntKind.i64.wrap ((a : Int) + (b : Int)) = (c : Int) := w_id (by omega) (by omega) (by omega)
theorem mul_w {a b c : Nat} (h : c = a * b) (hc : c ≤ 9223372036854775807) : IntKind.i64.wrap ((a : Int) * (b : Int)) = (c : Int) := by
  rw [← Int.natCast_mul, ← h]; exact w_id (by omega) (by omega) rfl
theorem mul2_w {a c : Nat} (h : c = 2 * a) (hc : c ≤ 9223372036854775807) : IntKind.i64.wrap (2 * (a : Int)) = (c : Int) := w_id (by omega) (by omega) (by omega)
theorem mul4_w {a c : Nat} (h : c = 4 * a) (hc : c ≤ 9223372036854775807) : IntKind.i64.wrap (4 * (a : Int)) = (c : Int) := w_id (by omega) (by omega) (by omega)
theorem mul5_w {a c : Nat} (h : c = 5 * a) (hc : c ≤ 9223372036854775807) : IntKind.i64.wrap (5 * (a : Int)) = (c : Int) := w_id (by omega) (by omega) (by omega)
theorem sub_w {a b c : Nat} (h : c = a - b) (hb : b ≤ a) (ha : a ≤ 9223372036854775807) : IntKind.i64.wrap ((a : Int) - (b : Int)) = (c : Int) := w_id (by omega) (by omega) (by omega)
theorem sub_i {a b : Nat} (ha : a ≤ 32768) (hb : b ≤ 32768) : IntKind.i64.wrap ((a : Int) - (b : Int)) = (a : Int) - (b : Int) := w_id (by omega) (by omega) rfl
theorem nat_w {a : Nat} (ha : a ≤ 9223372036854775807) : wrap64 (a : Int) = (a : Int) := w64_id (by omega) (by omega)
theorem nat_i {a : Nat} (ha : a ≤ 9223372036854775807) : IntKind.i64.wrap (a : Int) = (a : Int) := w_id (by omega) (by omega) rfl
theorem add1_w {a c : Nat} (h : c = a + 1) (hc : c ≤ 9223372036854775807) : IntKind.i64.wrap ((a : Int) + 1) = (c : Int) := w_id (by omega) (by omega) (by omega)
theorem circ_measure {P n i j : Nat} (hj : j = i + 1) (hi : i = n + 1) (hn : n + 1 ≤ P) : P + 1 - (intOf (Value.int .i64 (j : Int))).toNat < P + 1 - (intOf (Value.int .i64 (i : Int))).toNat := by simp [intOf]; omega
theorem blk_at {w : World} {n : Nat} (h : w.heap.size = n) (t : TypeId) (cs : Array Value) : Blk (w.alloc (.cells cs t)) n t cs := by subst h; exact Blk.new w t cs
theorem knots_one {X Y : Nat → Nat} (hx : X 0 = 0) (hy : Y 0 = 0) : (#[Value.int .i64 0, Value.int .i64 0] : Array Value).toList = knots X Y (0 + 1) := by simp [knots, hx, hy]
theorem own_lit_at {w : World} {base g : Nat} {e : TypeId} {size : Nat} {cs : Array Value} {xs : List Value} (h : w.heap.size = g) (hb : base ≤ w.heap.size) (n : Nat) (hm : n ≤ maxLen) (hs : cs.size = n * size) (hx : cs.toList = xs) :
    (w.alloc (.cells cs e)).ownsRow base e size (.slice (some ⟨g, 0, none⟩) n n) n xs := by
  subst h hx; exact World.ownsRow_lit w cs n hb hm hs
theorem own_set5 {w : World} {base : Nat} {e : TypeId} {size n R : Nat} {v : Value} {xs : List Value} (h : w.ownsRow base e size v n xs) (hne : v.ownBlock ≠ some R) (u0 u1 u2 u3 u4 : Value) :
    (((((w.setCell ⟨R, 0, none⟩ u0).setCell ⟨R, 1, none⟩ u1).setCell ⟨R, 2, none⟩ u2).setCell ⟨R, 3, none⟩ u3).setCell ⟨R, 4, none⟩ u4).ownsRow base e size v n xs :=
  own_setCell (p := ⟨R, 4, none⟩) (own_setCell (p := ⟨R, 3, none⟩) (own_setCell (p := ⟨R, 2, none⟩) (own_setCell (p := ⟨R, 1, none⟩) (own_setCell (p := ⟨R, 0, none⟩) h hne u0) hne u1) hne u2) hne u3) hne u4
theorem below_set5 {a w : World} {B R : Nat} (h : Below B a w) (hB : B ≤ R) (u0 u1 u2 u3 u4 : Value) :
    Below B a (((((w.setCell ⟨R, 0, none⟩ u0).setCell ⟨R, 1, none⟩ u1).setCell ⟨R, 2, none⟩ u2).setCell ⟨R, 3, none⟩ u3).setCell ⟨R, 4, none⟩ u4) :=
  ((((h.setCell (p := ⟨R, 0, none⟩) hB u0).setCell (p := ⟨R, 1, none⟩) hB u1).setCell (p := ⟨R, 2, none⟩) hB u2).setCell (p := ⟨R, 3, none⟩) hB u3).setCell (p := ⟨R, 4, none⟩) hB u4
theorem half_abs {w0 w1 hh : Nat} (h : hh = ((w1 - w0) + (w0 - w1)) / 2) : max ((w1 : Int) - (w0 : Int)) ((w0 : Int) - (w1 : Int)) / 2 = (hh : Int) := by omega
theorem half_absT {w0 w1 hh : Nat} (h : hh = ((w1 - w0) + (w0 - w1)) / 2) : (max ((w1 : Int) - (w0 : Int)) ((w0 : Int) - (w1 : Int))).tdiv 2 = (hh : Int) := by
  rw [Int.tdiv_eq_ediv_of_nonneg (by omega), half_abs h]
theorem max_cast {a b c : Nat} (h : c = max a b) : max (a : Int) (b : Int) = (c : Int) := by omega
/-- What Circle answers where its arguments are right. -/
def CircPost (w : World) (nm : ByteArray) (S P pr : Nat) (e : Ending) (w' : World) : Prop := ∃ ga capA gc capC : Nat,
  e = .returned (.tuple #[.agg #[.string nm, .int .i64 (S : Int), .int .i64 (pr : Int), .slice (some ⟨ga, 0, none⟩) (P + 1) capA, .slice (some ⟨gc, 0, none⟩) (P + 1) capC], .int .i64 0]) ∧
  w.heap.size ≤ ga ∧ w.heap.size ≤ gc ∧ TabAt w' ga 0 (P + 1) (fun k => (Circ.cd S P k : Nat)) (fun k => (Circ.ca S P k : Nat)) ∧ TabAt w' gc 0 (P + 1) (fun k => (Circ.cd S P k : Nat)) (fun k => (Circ.ck S P k : Nat)) ∧ Below w.heap.size w w'
end Go.Proofs.YtpeelnjkppdkbaaGreat

/- A circle reckoned by the kernel: a Bool for each size, and what it says of the circle's parts. Plain. -/
import Derived.Test.YtnphcnhefgjpjaaCirc
namespace Go.Proofs.Ytnphcnhefgjpjaa.Circ
set_option linter.unusedVariables false
set_option linter.unusedSimpArgs false

/-- The argument is reckoned first. -/
noncomputable def fr (x : Nat) (f : Nat → Bool) : Bool := Nat.rec (motive := fun _ => Bool) (f 0) (fun n _ => f (Nat.succ n)) x
theorem fr_eq (x : Nat) (f : Nat → Bool) : fr x f = f x := by cases x <;> rfl
noncomputable def br (b : Bool) (y n : Bool) : Bool := Bool.rec (motive := fun _ => Bool) n y b
theorem br_true {b y n : Bool} (h : b = true) : br b y n = y := by rw [h]; rfl
theorem br_false {b y n : Bool} (h : b = false) : br b y n = n := by rw [h]; rfl
theorem br_and {b y : Bool} (h : br b y false = true) : b = true ∧ y = true := by
  cases b with
  | true => exact ⟨rfl, h⟩
  | false => cases h
/-- One part: the depth is D, the width W, the side c, the area a', the perimeter p'. -/
noncomputable def st5 (U : Nat) (k : Nat → Nat → Nat → Nat → Nat → Bool) (D W a p b : Nat) : Bool :=
  fr (Nat.div (Nat.mul (Nat.mul a a) (Nat.mul 5 a)) (Nat.mul 2 p)) fun v => br (Nat.ble v U) (br (Nat.ble b v) (k D W a p v) (k D W a p b)) false
noncomputable def st4 (U : Nat) (k : Nat → Nat → Nat → Nat → Nat → Bool) (D W s w a p b c : Nat) : Bool :=
  fr (Nat.add a (Nat.div (Nat.mul (Nat.add w W) s) 2)) fun a' => fr (Nat.add p (Nat.mul 2 c)) fun p' => st5 U k D W a' p' b
noncomputable def st3 (U : Nat) (k : Nat → Nat → Nat → Nat → Nat → Bool) (D W s w a p b m r : Nat) : Bool :=
  br (Nat.ble m (Nat.mul r r)) (br (Nat.ble (Nat.succ (Nat.mul (Nat.sub r 1) (Nat.sub r 1))) m) (st4 U k D W s w a p b r) false) (fr (Nat.succ r) fun c => st4 U k D W s w a p b c)
noncomputable def st2 (S U g : Nat) (k : Nat → Nat → Nat → Nat → Nat → Bool) (d w a p b D W : Nat) : Bool :=
  fr (Nat.sub D d) fun s => fr (Nat.div (Nat.add (Nat.sub W w) (Nat.sub w W)) 2) fun h => fr (Nat.add (Nat.mul s s) (Nat.mul h h)) fun m => fr (Nat.succ (Nat.div (Nat.mul S g) 65536)) fun r0 => fr (Nat.div (Nat.add r0 (Nat.div m r0)) 2) fun r => st3 U k D W s w a p b m r
noncomputable def stW (k : Nat → Bool) (n r : Nat) : Bool :=
  br (Nat.ble (Nat.mul r r) n) (k r) (br (Nat.ble (Nat.mul (Nat.sub r 1) (Nat.sub r 1)) n) (fr (Nat.sub r 1) k) (br (Nat.ble (Nat.mul (Nat.sub r 2) (Nat.sub r 2)) n) (fr (Nat.sub r 2) k) false))
noncomputable def st1 (S P U j f g : Nat) (k : Nat → Nat → Nat → Nat → Nat → Bool) (d w a p b : Nat) : Bool :=
  fr (Nat.div (Nat.mul S j) P) fun D => fr (Nat.mul (Nat.mul 4 D) (Nat.sub S D)) fun n => fr (Nat.succ (Nat.div (Nat.mul S f) 65536)) fun r0 => fr (Nat.div (Nat.add r0 (Nat.div n r0)) 2) fun r => stW (fun W => st2 S U g k d w a p b D W) n r
noncomputable def lp (S P U : Nat) (fin : Nat → Nat → Bool) (l : List (Nat × Nat × Nat)) : Nat → Nat → Nat → Nat → Nat → Bool :=
  List.rec (motive := fun _ => Nat → Nat → Nat → Nat → Nat → Bool) (fun _ _ a _ b => fin a b) (fun c _ ih => fun d w a p b => st1 S P U c.1 c.2.1 c.2.2 ih d w a p b) l
/-- The list's parts are numbered. -/
def idx : List (Nat × Nat × Nat) → Nat → Bool
  | [], _ => true
  | c :: t, i => c.1 == i + 1 && idx t (i + 1)
def gU (G S : Nat) : Nat := Nat.div (Nat.mul G (Nat.pow S 5)) 1048576
noncomputable def chk (P G : Nat) (l : List (Nat × Nat × Nat)) (S : Nat) : Bool :=
  fr (gU G S) fun U => fr (gU G (Nat.sub S (Nat.mul 2 P))) fun L => lp S P U (fun a b => and (Nat.ble L b) (and (Nat.ble (Nat.mul 14 a) (Nat.mul 11 (Nat.mul S S))) (or (Nat.ble P 7) (Nat.ble (Nat.mul 7 (Nat.mul S S)) (Nat.add (Nat.mul 10 a) (Nat.mul 10 (Nat.mul P S))))))) l 0 0 0 0 0
/-- All sizes of a row. -/
noncomputable def al (f : Nat → Bool) (n : Nat) : Nat → Bool :=
  Nat.rec (motive := fun _ => Nat → Bool) (fun _ => true) (fun _ ih S => br (f S) (fr (Nat.succ S) ih) false) n
theorem al_at {f : Nat → Bool} : ∀ {n lo S : Nat}, al f n lo = true → lo ≤ S → S < lo + n → f S = true
  | 0, lo, S, _, h1, h2 => absurd h2 (by omega)
  | n + 1, lo, S, h, h1, h2 => by
    have h0 : br (f lo) (fr (Nat.succ lo) (al f n)) false = true := h
    obtain ⟨g1, g2⟩ := br_and h0
    rw [fr_eq] at g2
    rcases Nat.eq_or_lt_of_le h1 with e | e
    · rw [← e]; exact g1
    · exact al_at g2 e (by show S < lo + 1 + n; omega)
/-- The value whose root the conveyance is. -/
def cv (S P i : Nat) : Nat := ca S P i * ca S P i * (5 * ca S P i) / (2 * cp S P i)
theorem csq_eq {m c : Nat} (h1 : m ≤ c * c) (h2 : (c - 1) * (c - 1) + 1 ≤ m) : c = csq m := by
  have hc : 1 ≤ c := by
    rcases Nat.eq_zero_or_pos c with e | e
    · subst e; simp at h1; omega
    · exact e
  obtain ⟨r, rfl⟩ : ∃ r, c = r + 1 := ⟨c - 1, by omega⟩
  rw [Nat.add_sub_cancel] at h2
  unfold csq
  by_cases h : m = (r + 1) * (r + 1)
  · have e : r + 1 = Num.isq m := Num.isq_eq (by omega) (by
      have : (r + 1 + 1) * (r + 1 + 1) = (r + 1) * (r + 1) + 2 * (r + 1) + 1 := by rw [Nat.add_mul, Nat.mul_add (r + 1) (r + 1) 1]; omega
      omega)
    rw [← e, if_neg (by omega)]
  · have e : r = Num.isq m := Num.isq_eq (by omega) (by omega)
    rw [← e, if_pos (by omega)]
/-- Newton's step lies at the root or above it. -/
theorem newton {n r0 : Nat} (h : 0 < r0) : Num.isq n ≤ (r0 + n / r0) / 2 := by
  obtain ⟨h1, _⟩ := Num.isq_spec n
  generalize Num.isq n = q at h1
  rw [Nat.le_div_iff_mul_le (by omega)]
  rcases Nat.le_total (q * 2) r0 with g | g
  · exact Nat.le_trans g (Nat.le_add_right _ _)
  · have h2 : q * 2 - r0 ≤ n / r0 := by
      rw [Nat.le_div_iff_mul_le h]
      refine Nat.le_trans ?_ h1
      obtain ⟨t, ht⟩ := Nat.le.dest g
      rw [← ht, Nat.add_sub_cancel_left]
      rcases Nat.le_total q r0 with k | k
      · obtain ⟨u, rfl⟩ := Nat.le.dest k
        have e : t + u = q := by omega
        subst e
        have : (t + u) * (t + u) = t * (t + u + u) + u * u := by
          simp only [Nat.add_mul, Nat.mul_add]
          have : u * t = t * u := Nat.mul_comm _ _
          omega
        omega
      · obtain ⟨u, rfl⟩ := Nat.le.dest k
        have e : t = r0 + u + u := by omega
        subst e
        have : (r0 + u) * (r0 + u) = (r0 + u + u) * r0 + u * u := by
          simp only [Nat.add_mul, Nat.mul_add]
          have : u * r0 = r0 * u := Nat.mul_comm _ _
          omega
        omega
    exact Nat.le_trans (by omega : q * 2 ≤ r0 + (q * 2 - r0)) (Nat.add_le_add_left h2 _)
theorem isq_le {n r : Nat} (h : r * r ≤ n) : r ≤ Num.isq n := Num.le_isq h
theorem isq_is {n r : Nat} (h1 : r * r ≤ n) (h2 : n < (r + 1) * (r + 1)) : r = Num.isq n := Num.isq_eq h1 h2
theorem ble_no {a b : Nat} (h : Nat.ble a b = false) : b < a := by
  rcases Nat.lt_or_ge b a with g | g
  · exact g
  · rw [Nat.ble_eq_true_of_le g] at h; cases h
theorem st5_spec {U D W a p b : Nat} {k : Nat → Nat → Nat → Nat → Nat → Bool} (h : st5 U k D W a p b = true) : a * a * (5 * a) / (2 * p) ≤ U ∧ k D W a p (max b (a * a * (5 * a) / (2 * p))) = true := by
  unfold st5 at h
  rw [fr_eq] at h
  have e : a * a * (5 * a) / (2 * p) = Nat.div (Nat.mul (Nat.mul a a) (Nat.mul 5 a)) (Nat.mul 2 p) := rfl
  rw [e]
  generalize Nat.div (Nat.mul (Nat.mul a a) (Nat.mul 5 a)) (Nat.mul 2 p) = v at h ⊢
  obtain ⟨h1, h2⟩ := br_and h
  refine ⟨Nat.le_of_ble_eq_true h1, ?_⟩
  cases hb : Nat.ble b v with
  | true =>
    rw [br_true hb] at h2
    rw [Nat.max_eq_right (Nat.le_of_ble_eq_true hb)]
    exact h2
  | false =>
    rw [br_false hb] at h2
    rw [Nat.max_eq_left (Nat.le_of_lt (ble_no hb))]
    exact h2
theorem st4_spec {U D W s w a p b c : Nat} {k : Nat → Nat → Nat → Nat → Nat → Bool} (h : st4 U k D W s w a p b c = true) : st5 U k D W (a + (w + W) * s / 2) (p + 2 * c) b = true := by
  unfold st4 at h
  have h1 := (fr_eq _ _).symm.trans h
  have h2 := (fr_eq _ _).symm.trans h1
  exact h2
theorem st3_spec {U D W s w a p b m r : Nat} {k : Nat → Nat → Nat → Nat → Nat → Bool} (hr : Num.isq m ≤ r) (h : st3 U k D W s w a p b m r = true) : st4 U k D W s w a p b (csq m) = true := by
  unfold st3 at h
  cases hb : Nat.ble m (Nat.mul r r) with
  | true =>
    rw [br_true hb] at h
    obtain ⟨h1, h2⟩ := br_and h
    rw [← csq_eq (Nat.le_of_ble_eq_true hb) (Nat.le_of_ble_eq_true h1)]
    exact h2
  | false =>
    rw [br_false hb] at h
    have h1 := (fr_eq _ _).symm.trans h
    have hlt : r * r < m := ble_no hb
    have e : r = Num.isq m := Nat.le_antisymm (isq_le (Nat.le_of_lt hlt)) hr
    have : Nat.succ r = csq m := by unfold csq; rw [← e, if_pos hlt]
    rw [← this]
    exact h1
theorem st2_spec {S U g D W d w a p b : Nat} {k : Nat → Nat → Nat → Nat → Nat → Bool} (h : st2 S U g k d w a p b D W = true) : st4 U k D W (D - d) w a p b (csq ((D - d) * (D - d) + (((W - w) + (w - W)) / 2) * (((W - w) + (w - W)) / 2))) = true := by
  unfold st2 at h
  have h1 := (fr_eq _ _).symm.trans h
  have h2 := (fr_eq _ _).symm.trans h1
  have h3 := (fr_eq _ _).symm.trans h2
  have h4 := (fr_eq _ _).symm.trans h3
  have h5 := (fr_eq _ _).symm.trans h4
  exact st3_spec (newton (Nat.succ_pos _)) h5
theorem stW_spec {k : Nat → Bool} {n r : Nat} (hr : Num.isq n ≤ r) (h : stW k n r = true) : k (Num.isq n) = true := by
  unfold stW at h
  obtain ⟨q1, q2⟩ := Num.isq_spec n
  cases hb : Nat.ble (Nat.mul r r) n with
  | true =>
    rw [br_true hb] at h
    have : r = Num.isq n := Nat.le_antisymm (isq_le (Nat.le_of_ble_eq_true hb)) hr
    rw [← this]; exact h
  | false =>
    rw [br_false hb] at h
    have h0 : n < r * r := ble_no hb
    have hrp : 1 ≤ r := by
      rcases Nat.eq_zero_or_pos r with e | e
      · subst e; omega
      · exact e
    cases hc : Nat.ble (Nat.mul (Nat.sub r 1) (Nat.sub r 1)) n with
    | true =>
      rw [br_true hc, fr_eq] at h
      have : r - 1 = Num.isq n := isq_is (Nat.le_of_ble_eq_true hc) (by rw [Nat.sub_add_cancel hrp]; exact h0)
      rw [← this]; exact h
    | false =>
      rw [br_false hc] at h
      obtain ⟨h1, h2⟩ := br_and h
      rw [fr_eq] at h2
      have h3 : n < (r - 1) * (r - 1) := ble_no hc
      have hr2 : 1 ≤ r - 1 := by
        rcases Nat.eq_zero_or_pos (r - 1) with e | e
        · rw [e] at h3; omega
        · exact e
      have : r - 2 = Num.isq n := isq_is (Nat.le_of_ble_eq_true h1) (by rw [show r - 2 + 1 = r - 1 by omega]; exact h3)
      rw [← this]; exact h2
theorem st1_spec {S P U f g i b : Nat} {k : Nat → Nat → Nat → Nat → Nat → Bool} (h : st1 S P U (i + 1) f g k (cd S P i) (cw S P i) (ca S P i) (cp S P i) b = true) :
    cv S P (i + 1) ≤ U ∧ k (cd S P (i + 1)) (cw S P (i + 1)) (ca S P (i + 1)) (cp S P (i + 1)) (max b (cv S P (i + 1))) = true := by
  unfold st1 at h
  have h1 := (fr_eq _ _).symm.trans h
  have h2 := (fr_eq _ _).symm.trans h1
  have h3 := (fr_eq _ _).symm.trans h2
  have h4 := (fr_eq _ _).symm.trans h3
  have h5 : st2 S U g k (cd S P i) (cw S P i) (ca S P i) (cp S P i) b (cd S P (i + 1)) (cw S P (i + 1)) = true := stW_spec (newton (Nat.succ_pos _)) h4
  exact st5_spec (st4_spec (st2_spec h5))
theorem lp_spec {S P U : Nat} {fin : Nat → Nat → Bool} : ∀ (l : List (Nat × Nat × Nat)) (i b : Nat), idx l i = true → lp S P U fin l (cd S P i) (cw S P i) (ca S P i) (cp S P i) b = true →
    (∀ j, i < j → j ≤ i + l.length → cv S P j ≤ U) ∧ ∃ B, fin (ca S P (i + l.length)) B = true ∧ (B = b ∨ ∃ j, i < j ∧ j ≤ i + l.length ∧ cv S P j = B)
  | [], i, b, _, h => ⟨fun j h1 h2 => absurd h2 (by simp; omega), b, h, .inl rfl⟩
  | c :: t, i, b, hx, h => by
    unfold idx at hx
    rw [Bool.and_eq_true] at hx
    have hc : c.1 = i + 1 := by simpa using hx.1
    have h0 : st1 S P U c.1 c.2.1 c.2.2 (lp S P U fin t) (cd S P i) (cw S P i) (ca S P i) (cp S P i) b = true := h
    rw [hc] at h0
    obtain ⟨h1, h2⟩ := st1_spec h0
    obtain ⟨g1, B, g2, g3⟩ := lp_spec t (i + 1) _ hx.2 h2
    have e : i + (c :: t).length = i + 1 + t.length := by simp; omega
    rw [e]
    refine ⟨fun j q1 q2 => ?_, B, g2, ?_⟩
    · rcases Nat.eq_or_lt_of_le q1 with q | q
      · rw [← q]; exact h1
      · exact g1 j q q2
    · rcases g3 with g3 | ⟨j, q1, q2, q3⟩
      · rcases Nat.le_total b (cv S P (i + 1)) with q | q
        · exact .inr ⟨i + 1, by omega, by omega, by rw [g3, Nat.max_eq_right q]⟩
        · exact .inl (by rw [g3, Nat.max_eq_left q])
      · exact .inr ⟨j, by omega, q2, q3⟩
/-- What the reckoning of a size says. -/
theorem chk_spec {P G S : Nat} {l : List (Nat × Nat × Nat)} (hl : l.length = P) (hx : idx l 0 = true) (h : chk P G l S = true) :
    (∀ j, 0 < j → j ≤ P → cv S P j ≤ gU G S) ∧ (gU G (S - 2 * P) = 0 ∨ ∃ j, 0 < j ∧ j ≤ P ∧ gU G (S - 2 * P) ≤ cv S P j) ∧ 14 * ca S P P ≤ 11 * (S * S) ∧ (P ≤ 7 ∨ 7 * (S * S) ≤ 10 * ca S P P + 10 * (P * S)) := by
  unfold chk at h
  have h1 := (fr_eq _ _).symm.trans h
  have h2 := (fr_eq _ _).symm.trans h1
  have e0 : cd S P 0 = 0 := by unfold cd; simp
  have e1 : cw S P 0 = 0 := by unfold cw; rw [e0]; simp [Num.isq]
  have h3 : lp S P (gU G S) (fun a b => and (Nat.ble (gU G (S - 2 * P)) b) (and (Nat.ble (Nat.mul 14 a) (Nat.mul 11 (Nat.mul S S))) (or (Nat.ble P 7) (Nat.ble (Nat.mul 7 (Nat.mul S S)) (Nat.add (Nat.mul 10 a) (Nat.mul 10 (Nat.mul P S))))))) l (cd S P 0) (cw S P 0) (ca S P 0) (cp S P 0) 0 = true := by
    rw [e0, e1]; exact h2
  obtain ⟨g1, B, g2, g3⟩ := lp_spec l 0 0 hx h3
  rw [Nat.zero_add, hl] at g1 g2 g3
  rw [Bool.and_eq_true, Bool.and_eq_true, Bool.or_eq_true] at g2
  obtain ⟨q1, q2, q3⟩ := g2
  have q1 := Nat.le_of_ble_eq_true q1
  refine ⟨g1, ?_, Nat.le_of_ble_eq_true q2, ?_⟩
  · rcases g3 with g3 | ⟨j, a, b, c⟩
    · left; omega
    · right; exact ⟨j, a, b, by omega⟩
  · rcases q3 with q3 | q3
    · exact .inl (Nat.le_of_ble_eq_true q3)
    · exact .inr (Nat.le_of_ble_eq_true q3)
theorem gU_mono {G a b : Nat} (h : a ≤ b) : gU G a ≤ gU G b := Nat.div_le_div_right (Nat.mul_le_mul_left _ (Nat.pow_le_pow_left h 5))
theorem ck_ge {S P : Nat} : ∀ {i j : Nat}, 0 < j → j ≤ i → Num.isq (cv S P j) ≤ ck S P i
  | 0, j, h1, h2 => by omega
  | i + 1, j, h1, h2 => by
    show _ ≤ max (ck S P i) (Num.isq (cv S P (i + 1)))
    rcases Nat.eq_or_lt_of_le h2 with e | e
    · rw [e]; omega
    · have := ck_ge (S := S) (P := P) (i := i) h1 (by omega)
      omega
theorem ck_le {S P U : Nat} : ∀ {i : Nat}, (∀ j, 0 < j → j ≤ i → cv S P j ≤ U) → ck S P i ≤ Num.isq U
  | 0, _ => Nat.zero_le _
  | i + 1, h => by
    show max (ck S P i) (Num.isq (cv S P (i + 1))) ≤ _
    have h1 := ck_le (S := S) (P := P) (i := i) (U := U) fun j a b => h j a (by omega)
    have h2 := Num.isq_mono (h (i + 1) (by omega) (by omega))
    omega
/-- A greater circle carries more. -/
theorem ck_more {S T P G : Nat} {l : List (Nat × Nat × Nat)} (hl : l.length = P) (hx : idx l 0 = true) (hS : chk P G l S = true) (hT : chk P G l T = true) (h : S + 2 * P ≤ T) : ck S P P ≤ ck T P P := by
  obtain ⟨a1, _⟩ := chk_spec hl hx hS
  obtain ⟨_, b2, _⟩ := chk_spec hl hx hT
  have h1 := ck_le (S := S) (P := P) (i := P) a1
  have h2 : gU G S ≤ gU G (T - 2 * P) := gU_mono (by omega)
  rcases b2 with b2 | ⟨j, j1, j2, j3⟩
  · have : gU G S ≤ 0 := by omega
    have h3 : Num.isq (gU G S) = 0 := by rw [Nat.le_zero.1 this]; rfl
    omega
  · have h3 := Num.isq_mono (Nat.le_trans h2 j3)
    have h4 := ck_ge (S := T) (P := P) j1 j2
    omega
/-- Both halves have the same area where the number of parts is even and divides the size. -/
theorem cd_mul {P q i : Nat} (hP : 0 < P) : cd (P * q) P i = q * i := by
  unfold cd; rw [Nat.mul_assoc, Nat.mul_div_cancel_left _ hP]
theorem cw_sym {P q i : Nat} (hP : 0 < P) (hi : i ≤ P) : cw (P * q) P (P - i) = cw (P * q) P i := by
  unfold cw
  rw [cd_mul hP, cd_mul hP]
  have e : P * q - q * (P - i) = q * i := by
    rw [Nat.mul_sub, Nat.mul_comm P q]
    have := Nat.mul_le_mul_left q hi
    omega
  have e2 : P * q - q * i = q * (P - i) := by rw [Nat.mul_sub, Nat.mul_comm P q]
  rw [e, e2]
  congr 1
  exact Nat.mul_right_comm 4 (q * (P - i)) (q * i)
def inc (S P i : Nat) : Nat := (cw S P i + cw S P (i + 1)) * cs S P i / 2
theorem inc_sym {P q i : Nat} (hP : 0 < P) (hi : i < P) : inc (P * q) P (P - 1 - i) = inc (P * q) P i := by
  unfold inc
  have e1 : P - 1 - i = P - (i + 1) := by omega
  have e2 : P - 1 - i + 1 = P - i := by omega
  have e3 : ∀ k, cs (P * q) P k = q := fun k => by
    unfold cs
    rw [cd_mul hP, cd_mul hP, Nat.mul_add, Nat.mul_one]
    omega
  rw [e2, e1, cw_sym hP (by omega), cw_sym hP (by omega), e3, e3, Nat.add_comm]
theorem ca_succ (S P i : Nat) : ca S P (i + 1) = ca S P i + inc S P i := rfl
theorem ca_half {m q : Nat} (hm : 0 < m) : ∀ k, k ≤ m → ca (2 * m * q) (2 * m) (m + k) + ca (2 * m * q) (2 * m) (m - k) = 2 * ca (2 * m * q) (2 * m) m
  | 0, _ => by rw [Nat.add_zero, Nat.sub_zero]; omega
  | k + 1, h => by
    have ih := ca_half (m := m) (q := q) hm k (by omega)
    have e1 : ca (2 * m * q) (2 * m) (m + (k + 1)) = ca (2 * m * q) (2 * m) (m + k) + inc (2 * m * q) (2 * m) (m + k) := ca_succ _ _ _
    have e2 : ca (2 * m * q) (2 * m) (m - k) = ca (2 * m * q) (2 * m) (m - (k + 1)) + inc (2 * m * q) (2 * m) (m - (k + 1)) := by
      have := ca_succ (2 * m * q) (2 * m) (m - (k + 1))
      rwa [show m - (k + 1) + 1 = m - k by omega] at this
    have e3 : inc (2 * m * q) (2 * m) (m + k) = inc (2 * m * q) (2 * m) (m - (k + 1)) := by
      have := inc_sym (P := 2 * m) (q := q) (i := m - (k + 1)) (by omega) (by omega)
      rw [← this]
      congr 1
      omega
    omega
theorem halves {S P : Nat} (h0 : 0 < P) (h2 : P % 2 = 0) (hS : S % P = 0) : ca S P P = 2 * ca S P (P / 2) := by
  obtain ⟨m, rfl⟩ : ∃ m, P = 2 * m := ⟨P / 2, by omega⟩
  obtain ⟨q, rfl⟩ : ∃ q, S = 2 * m * q := ⟨S / (2 * m), (Nat.mul_div_cancel' (Nat.dvd_of_mod_eq_zero hS)).symm⟩
  have h := ca_half (m := m) (q := q) (by omega) m (Nat.le_refl _)
  rw [Nat.sub_self, ← Nat.two_mul] at h
  rw [Nat.mul_div_cancel_left _ (by omega : 0 < 2), ← h]
  rfl
end Go.Proofs.Ytnphcnhefgjpjaa.Circ

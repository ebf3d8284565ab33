/- Remainders modulo the polynomial of the check, as numbers: products, powers, and what division leaves. Plain Lean: no program in sight. -/
import Derived.Below

namespace Go.Proofs.Ytigmmikijjcdiaa.crcm

/-- a remainder times the power 1 -/
def up (r : Nat) : Nat := if r % 2 = 1 then r / 2 ^^^ 2197175160 else r / 2
def unit : Nat := 2147483648
def upk : Nat → Nat → Nat
  | 0, r => r
  | k + 1, r => up (upk k r)

theorem xor_half (a b : Nat) : (a ^^^ b) / 2 = a / 2 ^^^ b / 2 := by
  have := Nat.xor_div_two_pow (a := a) (b := b) (n := 1)
  simpa using this
theorem xor_swap (a b c d : Nat) : (a ^^^ b) ^^^ (c ^^^ d) = (a ^^^ c) ^^^ (b ^^^ d) := by
  rw [Nat.xor_assoc, Nat.xor_assoc, ← Nat.xor_assoc b c d, Nat.xor_comm b c, Nat.xor_assoc c b d]
theorem xor_cancel (a b : Nat) : a ^^^ (a ^^^ b) = b := by rw [← Nat.xor_assoc, Nat.xor_self, Nat.zero_xor]
theorem up_lt (r : Nat) (h : r < 4294967296) : up r < 4294967296 := by
  unfold up
  split
  · exact Nat.xor_lt_two_pow (n := 32) (by omega) (by omega)
  · omega
theorem up_zero : up 0 = 0 := by decide
theorem up_xor (a b : Nat) : up (a ^^^ b) = up a ^^^ up b := by
  have hm : (a ^^^ b) % 2 = 1 ↔ ¬ (a % 2 = 1 ↔ b % 2 = 1) := Nat.xor_mod_two_eq_one
  unfold up
  rw [xor_half]
  rcases Nat.mod_two_eq_zero_or_one a with ha | ha <;> rcases Nat.mod_two_eq_zero_or_one b with hb | hb
  · rw [if_neg (by omega), if_neg (by omega), if_neg (by omega)]
  · rw [if_pos (by omega), if_neg (by omega), if_pos (by omega), Nat.xor_assoc]
  · rw [if_pos (by omega), if_pos (by omega), if_neg (by omega), Nat.xor_assoc, Nat.xor_assoc, Nat.xor_comm _ (b / 2)]
  · rw [if_neg (by omega), if_pos (by omega), if_pos (by omega), xor_swap, Nat.xor_self, Nat.xor_zero]
theorem upk_lt (k r : Nat) (h : r < 4294967296) : upk k r < 4294967296 := by
  induction k with
  | zero => exact h
  | succ k ih => exact up_lt _ ih
theorem upk_zero (k : Nat) : upk k 0 = 0 := by
  induction k with
  | zero => rfl
  | succ k ih => simp only [upk, ih, up_zero]
theorem upk_xor (k a b : Nat) : upk k (a ^^^ b) = upk k a ^^^ upk k b := by
  induction k with
  | zero => rfl
  | succ k ih => simp only [upk, ih, up_xor]
theorem upk_add (j k r : Nat) : upk (j + k) r = upk j (upk k r) := by
  induction j with
  | zero => simp [upk]
  | succ j ih => rw [Nat.succ_add]; simp only [upk, ih]
theorem upk_comm (j k r : Nat) : upk j (upk k r) = upk k (upk j r) := by rw [← upk_add, Nat.add_comm, upk_add]
theorem upk_up (k r : Nat) : upk k (up r) = up (upk k r) := upk_comm k 1 r

/-- the product, after k rounds: the powers 0 up to k -/
def timesTo (a b : Nat) : Nat → Nat
  | 0 => 0
  | k + 1 => timesTo a b k ^^^ (if a.testBit (31 - k) = true then upk k b else 0)
def times (a b : Nat) : Nat := timesTo a b 32

theorem timesTo_lt (a b k : Nat) (hb : b < 4294967296) : timesTo a b k < 4294967296 := by
  induction k with
  | zero => exact Nat.zero_lt_succ _
  | succ k ih =>
    refine Nat.xor_lt_two_pow (n := 32) ih ?_
    split
    · exact upk_lt k b hb
    · decide
theorem times_lt (a b : Nat) (hb : b < 4294967296) : times a b < 4294967296 := timesTo_lt a b 32 hb
theorem timesTo_xor (a b c k : Nat) : timesTo a (b ^^^ c) k = timesTo a b k ^^^ timesTo a c k := by
  induction k with
  | zero => simp [timesTo]
  | succ k ih =>
    simp only [timesTo, ih, upk_xor]
    rw [xor_swap]
    split <;> simp
theorem timesTo_up (a b k : Nat) : timesTo a (up b) k = up (timesTo a b k) := by
  induction k with
  | zero => simp [timesTo, up_zero]
  | succ k ih =>
    simp only [timesTo, ih, up_xor, upk_up]
    split <;> simp [up_zero]
theorem timesTo_zero (a k : Nat) : timesTo a 0 k = 0 := by
  induction k with
  | zero => rfl
  | succ k ih => simp [timesTo, ih, upk_zero]
theorem zero_timesTo (b k : Nat) : timesTo 0 b k = 0 := by
  induction k with
  | zero => rfl
  | succ k ih => simp [timesTo, ih]
theorem times_upk (a b k : Nat) : times a (upk k b) = upk k (times a b) := by
  induction k with
  | zero => rfl
  | succ k ih => simp only [upk]; rw [← ih]; exact timesTo_up a (upk k b) 32
theorem times_swap_to (a b c k : Nat) : times a (timesTo b c k) = timesTo b (times a c) k := by
  induction k with
  | zero => exact timesTo_zero a 32
  | succ k ih =>
    simp only [timesTo]
    rw [show ∀ x y, times a (x ^^^ y) = times a x ^^^ times a y from fun x y => timesTo_xor a x y 32, ih]
    split
    · rw [times_upk]
    · rw [show times a 0 = 0 from timesTo_zero a 32]
theorem times_swap (a b c : Nat) : times a (times b c) = times b (times a c) := times_swap_to a b c 32

/-- unit is the power 0: its k-th power is the bit 31 - k -/
theorem upk_unit : ∀ k : Fin 32, upk k.1 unit = 2 ^ (31 - k.1) := by decide
theorem timesTo_unit (a : Nat) : ∀ k, k ≤ 32 → ∀ i, (timesTo a unit k).testBit i = (decide (32 - k ≤ i) && decide (i < 32) && a.testBit i) := by
  intro k
  induction k with
  | zero =>
    intro _ i
    simp only [timesTo, Nat.zero_testBit]
    by_cases h : i < 32
    · simp [show ¬ 32 ≤ i by omega]
    · simp [h]
  | succ k ih =>
    intro hk i
    have hu : upk k unit = 2 ^ (31 - k) := upk_unit ⟨k, by omega⟩
    simp only [timesTo, Nat.testBit_xor, ih (by omega) i, hu]
    by_cases hi : i = 31 - k
    · subst hi
      have h1 : decide (32 - k ≤ 31 - k) = false := decide_eq_false (by omega)
      have h2 : decide (32 - (k + 1) ≤ 31 - k) = true := decide_eq_true (by omega)
      have h3 : decide (31 - k < 32) = true := decide_eq_true (by omega)
      rw [h1, h2, h3]
      by_cases ht : a.testBit (31 - k) = true
      · rw [if_pos ht, ht, Nat.testBit_two_pow_self]; rfl
      · rw [if_neg ht, Nat.zero_testBit]; simp only [Bool.not_eq_true] at ht; rw [ht]; rfl
    · have h4 : (if a.testBit (31 - k) = true then 2 ^ (31 - k) else 0).testBit i = false := by
        split
        · rw [Nat.testBit_two_pow]; simp only [decide_eq_false_iff_not]; omega
        · exact Nat.zero_testBit _
      rw [h4, Bool.xor_false]
      have h5 : decide (32 - k ≤ i) = decide (32 - (k + 1) ≤ i) := by
        by_cases h : 32 - k ≤ i
        · rw [decide_eq_true h, decide_eq_true (by omega)]
        · rw [decide_eq_false h, decide_eq_false (by omega)]
      rw [h5]
theorem times_unit (a : Nat) (ha : a < 4294967296) : times a unit = a := by
  apply Nat.eq_of_testBit_eq
  intro i
  unfold times
  rw [timesTo_unit a 32 (Nat.le_refl _)]
  by_cases hi : i < 32
  · simp [hi]
  · rw [Nat.testBit_lt_two_pow (x := a) (i := i) (Nat.lt_of_lt_of_le ha (by
      have : (2:Nat) ^ 32 ≤ 2 ^ i := Nat.pow_le_pow_right (by omega) (by omega)
      omega))]
    simp
theorem unit_lt : unit < 4294967296 := by decide
theorem times_comm (a b : Nat) (ha : a < 4294967296) (hb : b < 4294967296) : times a b = times b a := by
  have h := times_swap a b unit
  rw [times_unit a ha, times_unit b hb] at h
  exact h
theorem times_assoc (a b c : Nat) (hb : b < 4294967296) (hc : c < 4294967296) : times (times a b) c = times a (times b c) := by
  rw [times_comm (times a b) c (times_lt a b hb) hc, times_swap c a b, times_comm c b hc hb]
theorem times_xor (a b c : Nat) : times a (b ^^^ c) = times a b ^^^ times a c := timesTo_xor a b c 32
theorem times_zero (a : Nat) : times a 0 = 0 := timesTo_zero a 32

/-- the power of n bytes -/
def power (n : Nat) : Nat := upk (8 * n) unit
theorem power_lt (n : Nat) : power n < 4294967296 := upk_lt _ _ unit_lt
theorem times_power (a n : Nat) (ha : a < 4294967296) : times a (power n) = upk (8 * n) a := by
  unfold power; rw [times_upk, times_unit a ha]
theorem power_add (m n : Nat) : power (m + n) = times (power m) (power n) := by
  rw [times_power _ _ (power_lt m)]
  unfold power
  rw [Nat.mul_add, Nat.add_comm, upk_add]
theorem times_upk_unit (e d : Nat) : times (upk e unit) (upk d unit) = upk (e + d) unit := by
  rw [times_upk, times_unit _ (upk_lt _ _ unit_lt), ← upk_add, Nat.add_comm]

/-- what division leaves, power by power -/
def rest (l : List Bool) : Nat := l.foldl (fun r c => up r ^^^ (if c = true then unit else 0)) 0
def restFrom (r : Nat) (l : List Bool) : Nat := l.foldl (fun r c => up r ^^^ (if c = true then unit else 0)) r
theorem restFrom_eq (l : List Bool) : ∀ r, restFrom r l = upk l.length r ^^^ rest l := by
  induction l with
  | nil => intro r; simp [restFrom, rest, upk]
  | cons c l ih =>
    intro r
    have h1 : restFrom r (c :: l) = restFrom (up r ^^^ (if c = true then unit else 0)) l := rfl
    have h2 : rest (c :: l) = restFrom (up 0 ^^^ (if c = true then unit else 0)) l := rfl
    rw [h1, h2, ih, ih, upk_xor, upk_xor, up_zero, upk_zero, Nat.zero_xor, List.length_cons, Nat.xor_assoc]
    congr 1
    exact (upk_add l.length 1 r).symm
theorem rest_append (l m : List Bool) : rest (l ++ m) = upk m.length (rest l) ^^^ rest m := by
  have : rest (l ++ m) = restFrom (rest l) m := by unfold rest restFrom; rw [List.foldl_append]
  rw [this, restFrom_eq]
theorem rest_lt (l : List Bool) : rest l < 4294967296 := by
  have h : ∀ l : List Bool, ∀ r, r < 4294967296 → restFrom r l < 4294967296 := by
    intro l
    induction l with
    | nil => intro r hr; exact hr
    | cons c l ih =>
      intro r hr
      refine ih _ (Nat.xor_lt_two_pow (n := 32) (up_lt r hr) ?_)
      split <;> decide
  exact h l 0 (by decide)
theorem rest_false (n : Nat) : rest (List.replicate n false) = 0 := by
  induction n with
  | zero => rfl
  | succ n ih =>
    rw [List.replicate_succ]
    show restFrom (up 0 ^^^ 0) (List.replicate n false) = 0
    rw [restFrom_eq, ih, up_zero, Nat.xor_zero, Nat.xor_self, upk_zero]
theorem rest_zip : ∀ (l m : List Bool), l.length = m.length → rest (List.zipWith Bool.xor l m) = rest l ^^^ rest m := by
  intro l m h
  have key : ∀ (l m : List Bool), l.length = m.length → ∀ r s, restFrom (r ^^^ s) (List.zipWith Bool.xor l m) = restFrom r l ^^^ restFrom s m := by
    intro l
    induction l with
    | nil => intro m h r s; cases m with
      | nil => rfl
      | cons => simp at h
    | cons c l ih => intro m h r s; cases m with
      | nil => simp at h
      | cons d m =>
        simp only [List.length_cons, Nat.add_right_cancel_iff] at h
        simp only [List.zipWith_cons_cons]
        show restFrom (up (r ^^^ s) ^^^ _) _ = restFrom (up r ^^^ _) l ^^^ restFrom (up s ^^^ _) m
        rw [← ih m h, up_xor]
        congr 1
        rw [xor_swap]
        cases c <;> cases d <;> simp
  exact key l m h 0 0

/-- the check's inner row -/
def sumR (r : Nat) (bs : List UInt8) : Nat := bs.foldl (fun r c => upk 8 (r ^^^ c.toNat)) r
def sum (bs : List UInt8) : Nat := sumR 4294967295 bs ^^^ 4294967295
theorem byte_lt (c : UInt8) : c.toNat < 256 := c.toNat_lt
theorem sumR_lt (bs : List UInt8) : ∀ r, r < 4294967296 → sumR r bs < 4294967296 := by
  induction bs with
  | nil => intro r hr; exact hr
  | cons c bs ih => intro r hr; exact ih _ (upk_lt 8 _ (Nat.xor_lt_two_pow (n := 32) hr (by have := byte_lt c; omega)))
theorem sum_lt (bs : List UInt8) : sum bs < 4294967296 := Nat.xor_lt_two_pow (n := 32) (sumR_lt bs _ (by decide)) (by decide)
theorem sumR_snoc (r : Nat) (bs : List UInt8) (c : UInt8) : sumR r (bs ++ [c]) = upk 8 (sumR r bs ^^^ c.toNat) := by
  simp [sumR, List.foldl_append]
theorem up_even (q : Nat) : up (2 * q) = q := by
  unfold up
  rw [if_neg (by omega)]
  omega
theorem upk_four (q : Nat) : upk 4 (16 * q) = q := by
  simp only [upk]
  rw [show 16 * q = 2 * (8 * q) by omega, up_even, show 8 * q = 2 * (4 * q) by omega, up_even, show 4 * q = 2 * (2 * q) by omega, up_even, up_even]
theorem split16 (s : Nat) : s = (16 * (s / 16)) ^^^ (s % 16) := by
  have h1 : 16 * (s / 16) ^^^ s % 16 = 16 * (s / 16) + s % 16 := by
    have h2 := Nat.two_pow_add_eq_or_of_lt (b := s % 16) (i := 4) (by omega) (s / 16)
    have h3 : 2 ^ 4 * (s / 16) &&& s % 16 = 0 := by
      apply Nat.eq_of_testBit_eq
      intro i
      rw [Nat.testBit_and, Nat.zero_testBit, Nat.testBit_two_pow_mul]
      by_cases hi : 4 ≤ i
      · have : (s % 16).testBit i = false := Nat.testBit_lt_two_pow (Nat.lt_of_lt_of_le (Nat.mod_lt _ (by omega)) (show 16 ≤ 2 ^ i from Nat.pow_le_pow_right (n := 2) (by omega) hi))
        rw [this, Bool.and_false]
      · simp [hi]
    have h4 : ∀ a b : Nat, a &&& b = 0 → a ^^^ b = a ||| b := by
      intro a b hab
      apply Nat.eq_of_testBit_eq
      intro i
      have hi : (a &&& b).testBit i = false := by rw [hab]; exact Nat.zero_testBit i
      rw [Nat.testBit_and] at hi
      rw [Nat.testBit_xor, Nat.testBit_or]
      revert hi
      cases a.testBit i <;> cases b.testBit i <;> simp
    rw [show (16 : Nat) = 2 ^ 4 by rfl] at h2 ⊢
    rw [h4 _ _ h3, h2]
  omega
theorem nibble (s : Nat) : upk 4 s = s / 16 ^^^ upk 4 (s % 16) := by
  have h := congrArg (upk 4) (split16 s)
  rw [upk_xor, upk_four] at h
  exact h
theorem byte_step (s : Nat) : (s / 16 ^^^ upk 4 (s % 16)) / 16 ^^^ upk 4 ((s / 16 ^^^ upk 4 (s % 16)) % 16) = upk 8 s := by
  rw [← nibble, ← nibble]
  exact (upk_add 4 4 s).symm

end Go.Proofs.Ytigmmikijjcdiaa.crcm

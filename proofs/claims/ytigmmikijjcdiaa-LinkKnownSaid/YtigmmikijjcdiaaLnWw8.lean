/- Lemmas: Crcm, Crcn. -/
import Derived.Below
set_option linter.unusedVariables false
set_option linter.unusedSimpArgs false
set_option maxRecDepth 100000
set_option maxHeartbeats 16000000
namespace Go.Proofs.Ytigmmikijjcdiaa.crcm
def up (r : Nat) : Nat := if r % 2 = 1 then r / 2 ^^^ 2197175160 else r / 2
def unit : Nat := 2147483648
def upk : Nat → Nat → Nat
 | 0, r => r
 | k + 1, r => up (upk k r)
theorem xor_half (a b : Nat) : (a ^^^ b) / 2 = a / 2 ^^^ b / 2 := by
 have := Nat.xor_div_two_pow (a := a) (b := b) (n := 1)
 simpa using this
theorem xor_swap (a b c d : Nat) : (a ^^^ b) ^^^ (c ^^^ d) = (a ^^^ c) ^^^ (b ^^^ d) := by
 rw [Nat.xor_assoc, Nat.xor_assoc, ← Nat.xor_assoc b c d, Nat.xor_comm b c, Nat.xor_assoc c b d]
theorem xor_cancel (a b : Nat) : a ^^^ (a ^^^ b) = b := by rw [← Nat.xor_assoc, Nat.xor_self, Nat.zero_xor]
theorem up_lt (r : Nat) (h : r < 4294967296) : up r < 4294967296 := by
 unfold up
 split
 ·exact Nat.xor_lt_two_pow (n := 32) (by omega) (by omega)
 ·omega
theorem up_zero : up 0 = 0 := by decide
theorem up_xor (a b : Nat) : up (a ^^^ b) = up a ^^^ up b := by
 have hm : (a ^^^ b) % 2 = 1 ↔ ¬ (a % 2 = 1 ↔ b % 2 = 1) := Nat.xor_mod_two_eq_one
 unfold up
 rw [xor_half]
 rcases Nat.mod_two_eq_zero_or_one a with ha | ha <;> rcases Nat.mod_two_eq_zero_or_one b with hb | hb
 ·rw [if_neg (by omega), if_neg (by omega), if_neg (by omega)]
 ·rw [if_pos (by omega), if_neg (by omega), if_pos (by omega), Nat.xor_assoc]
 ·rw [if_pos (by omega), if_pos (by omega), if_neg (by omega), Nat.xor_assoc, Nat.xor_assoc, Nat.xor_comm _ (b / 2)]
 ·rw [if_neg (by omega), if_pos (by omega), if_pos (by omega), xor_swap, Nat.xor_self, Nat.xor_zero]
theorem upk_lt (k r : Nat) (h : r < 4294967296) : upk k r < 4294967296 := by
 induction k with
 | zero => exact h
 | succ k ih => exact up_lt _ ih
theorem upk_zero (k : Nat) : upk k 0 = 0 := by
 induction k with
 | zero => rfl
 | succ k ih => simp only [upk, ih, up_zero]
theorem upk_xor (k a b : Nat) : upk k (a ^^^ b) = upk k a ^^^ upk k b := by
 induction k with
 | zero => rfl
 | succ k ih => simp only [upk, ih, up_xor]
theorem upk_add (j k r : Nat) : upk (j + k) r = upk j (upk k r) := by
 induction j with
 | zero => simp [upk]
 | succ j ih => rw [Nat.succ_add]; simp only [upk, ih]
def timesTo (a b : Nat) : Nat → Nat
 | 0 => 0
 | k + 1 => timesTo a b k ^^^ (if a.testBit (31 - k) = true then upk k b else 0)
def times (a b : Nat) : Nat := timesTo a b 32
theorem upk_unit : ∀ k : Fin 32, upk k.1 unit = 2 ^ (31 - k.1) := by decide
def power (n : Nat) : Nat := upk (8 * n) unit
def rest (l : List Bool) : Nat := l.foldl (fun r c => up r ^^^ (if c = true then unit else 0)) 0
def restFrom (r : Nat) (l : List Bool) : Nat := l.foldl (fun r c => up r ^^^ (if c = true then unit else 0)) r
theorem restFrom_eq (l : List Bool) : ∀ r, restFrom r l = upk l.length r ^^^ rest l := by
 induction l with
 | nil => intro r; simp [restFrom, rest, upk]
 | cons c l ih =>
  intro r
  have h1 : restFrom r (c :: l) = restFrom (up r ^^^ (if c = true then unit else 0)) l := rfl
  have h2 : rest (c :: l) = restFrom (up 0 ^^^ (if c = true then unit else 0)) l := rfl
  rw [h1, h2, ih, ih, upk_xor, upk_xor, up_zero, upk_zero, Nat.zero_xor, List.length_cons, Nat.xor_assoc]
  congr 1
  exact (upk_add l.length 1 r).symm
theorem rest_append (l m : List Bool) : rest (l ++ m) = upk m.length (rest l) ^^^ rest m := by
 have : rest (l ++ m) = restFrom (rest l) m := by unfold rest restFrom; rw [List.foldl_append]
 rw [this, restFrom_eq]
theorem rest_lt (l : List Bool) : rest l < 4294967296 := by
 have h : ∀ l : List Bool, ∀ r, r < 4294967296 → restFrom r l < 4294967296 := by
  intro l
  induction l with
  | nil => intro r hr; exact hr
  | cons c l ih =>
   intro r hr
   refine ih _ (Nat.xor_lt_two_pow (n := 32) (up_lt r hr) ?_)
   split <;> decide
 exact h l 0 (by decide)
theorem rest_false (n : Nat) : rest (List.replicate n false) = 0 := by
 induction n with
 | zero => rfl
 | succ n ih =>
  rw [List.replicate_succ]
  show restFrom (up 0 ^^^ 0) (List.replicate n false) = 0
  rw [restFrom_eq, ih, up_zero, Nat.xor_zero, Nat.xor_self, upk_zero]
def sumR (r : Nat) (bs : List UInt8) : Nat := bs.foldl (fun r c => upk 8 (r ^^^ c.toNat)) r
def sum (bs : List UInt8) : Nat := sumR 4294967295 bs ^^^ 4294967295
theorem byte_lt (c : UInt8) : c.toNat < 256 := c.toNat_lt
theorem sumR_lt (bs : List UInt8) : ∀ r, r < 4294967296 → sumR r bs < 4294967296 := by
 induction bs with
 | nil => intro r hr; exact hr
 | cons c bs ih => intro r hr; exact ih _ (upk_lt 8 _ (Nat.xor_lt_two_pow (n := 32) hr (by have := byte_lt c; omega)))
theorem sum_lt (bs : List UInt8) : sum bs < 4294967296 := Nat.xor_lt_two_pow (n := 32) (sumR_lt bs _ (by decide)) (by decide)
theorem sumR_snoc (r : Nat) (bs : List UInt8) (c : UInt8) : sumR r (bs ++ [c]) = upk 8 (sumR r bs ^^^ c.toNat) := by
 simp [sumR, List.foldl_append]
theorem up_even (q : Nat) : up (2 * q) = q := by
 unfold up
 rw [if_neg (by omega)]
 omega
theorem upk_four (q : Nat) : upk 4 (16 * q) = q := by
 simp only [upk]
 rw [show 16 * q = 2 * (8 * q) by omega, up_even, show 8 * q = 2 * (4 * q) by omega, up_even, show 4 * q = 2 * (2 * q) by omega, up_even, up_even]
theorem split16 (s : Nat) : s = (16 * (s / 16)) ^^^ (s % 16) := by
 have h1 : 16 * (s / 16) ^^^ s % 16 = 16 * (s / 16) + s % 16 := by
  have h2 := Nat.two_pow_add_eq_or_of_lt (b := s % 16) (i := 4) (by omega) (s / 16)
  have h3 : 2 ^ 4 * (s / 16) &&& s % 16 = 0 := by
   apply Nat.eq_of_testBit_eq
   intro i
   rw [Nat.testBit_and, Nat.zero_testBit, Nat.testBit_two_pow_mul]
   by_cases hi : 4 ≤ i
   ·have : (s % 16).testBit i = false := Nat.testBit_lt_two_pow (Nat.lt_of_lt_of_le (Nat.mod_lt _ (by omega)) (show 16 ≤ 2 ^ i from Nat.pow_le_pow_right (n := 2) (by omega) hi))
    rw [this, Bool.and_false]
   ·simp [hi]
  have h4 : ∀ a b : Nat, a &&& b = 0 → a ^^^ b = a ||| b := by
   intro a b hab
   apply Nat.eq_of_testBit_eq
   intro i
   have hi : (a &&& b).testBit i = false := by rw [hab]; exact Nat.zero_testBit i
   rw [Nat.testBit_and] at hi
   rw [Nat.testBit_xor, Nat.testBit_or]
   revert hi
   cases a.testBit i <;> cases b.testBit i <;> simp
  rw [show (16 : Nat) = 2 ^ 4 by rfl] at h2 ⊢
  rw [h4 _ _ h3, h2]
 omega
theorem nibble (s : Nat) : upk 4 s = s / 16 ^^^ upk 4 (s % 16) := by
 have h := congrArg (upk 4) (split16 s)
 rw [upk_xor, upk_four] at h
 exact h
theorem byte_step (s : Nat) : (s / 16 ^^^ upk 4 (s % 16)) / 16 ^^^ upk 4 ((s / 16 ^^^ upk 4 (s % 16)) % 16) = upk 8 s := by
 rw [← nibble, ← nibble]
 exact (upk_add 4 4 s).symm
end Go.Proofs.Ytigmmikijjcdiaa.crcm
namespace Go.Proofs.Ytigmmikijjcdiaa.crcm
theorem rest_cons (x : Bool) (b : List Bool) : rest (x :: b) = upk b.length (if x = true then unit else 0) ^^^ rest b := by
 show restFrom (up 0 ^^^ _) b = _
 rw [restFrom_eq, up_zero, Nat.zero_xor]
theorem cut_at (c : List Bool) (j : Nat) (h : j < c.length) : c = c.take j ++ c[j] :: c.drop (j + 1) := by
 rw [List.getElem_cons_drop]; exact (List.take_append_drop j c).symm
theorem set_at (c : List Bool) (j : Nat) (h : j < c.length) (y : Bool) : c.set j y = c.take j ++ y :: c.drop (j + 1) := by
 rw [List.set_eq_take_append_cons_drop, if_pos h]
theorem rest_set (c : List Bool) (j : Nat) (h : j < c.length) (y : Bool) : rest (c.set j y) = rest c ^^^ (if c[j] = y then 0 else upk (c.length - 1 - j) unit) := by
 have hl : (c.drop (j + 1)).length = c.length - 1 - j := by rw [List.length_drop]; omega
 have e : rest c = upk ((c.drop (j + 1)).length + 1) (rest (c.take j)) ^^^ (upk (c.drop (j + 1)).length (if c[j] = true then unit else 0) ^^^ rest (c.drop (j + 1))) := by
  rw [← rest_cons, ← List.length_cons (a := c[j]), ← rest_append, ← cut_at c j h]
 rw [e, set_at c j h y, rest_append, rest_cons, List.length_cons, hl, Nat.xor_assoc, Nat.xor_assoc]
 congr 1
 generalize hU : upk (c.length - 1 - j) unit = U
 generalize hR : rest (c.drop (j + 1)) = R
 cases hc : c[j] <;> cases y
 ·simp
 ·simp [upk_zero, hU, Nat.xor_comm]
 ·simp [upk_zero, hU]; rw [Nat.xor_comm R, xor_cancel]
 ·simp
theorem rest_flip (c : List Bool) (j : Nat) (h : j < c.length) : rest (c.set j (!c[j])) = rest c ^^^ upk (c.length - 1 - j) unit := by
 rw [rest_set c j h]
 cases c[j] <;> simp
def ps : List Nat := [32, 28, 27, 26, 25, 23, 22, 20, 19, 18, 14, 13, 11, 10, 9, 8, 6, 0]
def accP : Nat → Nat
 | 0 => 0
 | k + 1 => accP k ^^^ upk (ps.getD k 0) unit
theorem accP_all : accP 18 = 0 := by decide +kernel
theorem ps_le (k : Nat) : ps.getD k 0 ≤ 32 := by
 rcases Nat.lt_or_ge k 18 with h | h
 ·have : ∀ k : Fin 18, ps.getD k.1 0 ≤ 32 := by decide
  exact this ⟨k, h⟩
 ·rw [List.getD_eq_getElem?_getD, List.getElem?_eq_none (by simpa [ps] using h)]; simp
theorem ps_small {k : Nat} (h0 : 0 < k) : ps.getD k 0 < 32 := by
 rcases Nat.lt_or_ge k 18 with h | h
 ·have : ∀ k : Fin 18, 0 < k.1 → ps.getD k.1 0 < 32 := by decide
  exact this ⟨k, h⟩ h0
 ·rw [List.getD_eq_getElem?_getD, List.getElem?_eq_none (by simpa [ps] using h)]; simp
theorem accP_step (c : List Bool) (i K R m a : Nat) (hm : c.length = i + 33 + m) (h : rest c = R ^^^ upk m (accP K)) (hj : a < c.length) (ha : i + 32 - ps.getD K 0 = a) :
  rest (c.set a (!c[a])) = R ^^^ upk m (accP (K + 1)) := by
 have hp := ps_le K
 rw [rest_flip c _ hj, h, accP, upk_xor, ← upk_add, Nat.xor_assoc, show c.length - 1 - a = m + ps.getD K 0 by omega]
def numTo (c : List Bool) (k : Nat) : Nat := upk (32 - k) (rest (c.take k))
theorem pow_xor {x k : Nat} (h : x < 2 ^ k) : x ^^^ 2 ^ k = x + 2 ^ k := by
 have h1 : x &&& 2 ^ k = 0 := by
  apply Nat.eq_of_testBit_eq
  intro i
  rw [Nat.testBit_and, Nat.zero_testBit, Nat.testBit_two_pow]
  by_cases hi : k = i
  ·subst hi; rw [Nat.testBit_lt_two_pow h]; rfl
  ·simp [hi]
 have h2 := Nat.two_pow_add_eq_or_of_lt h 1
 rw [Nat.mul_one] at h2
 rw [Nat.add_comm, h2]
 apply Nat.eq_of_testBit_eq
 intro i
 have hi : (x &&& 2 ^ k).testBit i = false := by rw [h1]; exact Nat.zero_testBit i
 rw [Nat.testBit_and] at hi
 rw [Nat.testBit_xor, Nat.testBit_or]
 revert hi
 cases x.testBit i <;> cases (2 ^ k).testBit i <;> simp
theorem numTo_zero (c : List Bool) : numTo c 0 = 0 := by unfold numTo; rw [List.take_zero]; exact upk_zero _
theorem numTo_xor (c : List Bool) (k : Nat) (hk : k < 32) (hc : k < c.length) : numTo c (k + 1) = numTo c k ^^^ (if c[k] = true then 2 ^ k else 0) := by
 unfold numTo
 rw [List.take_succ_eq_append_getElem hc, rest_append, upk_xor, List.length_singleton, ← upk_add, show 32 - (k + 1) + 1 = 32 - k by omega]
 congr 1
 have hu : upk (31 - k) unit = 2 ^ (31 - (31 - k)) := upk_unit ⟨31 - k, by omega⟩
 rw [show 31 - (31 - k) = k by omega] at hu
 rw [rest_cons, show 32 - (k + 1) = 31 - k by omega]
 cases c[k] <;> simp [upk, rest, hu, upk_zero]
theorem numTo_lt (c : List Bool) (hc : c.length = 32) : ∀ k, k ≤ 32 → numTo c k < 2 ^ k := by
 intro k
 induction k with
 | zero => intro _; rw [numTo_zero]; decide
 | succ k ih =>
  intro hk
  have := ih (by omega)
  rw [numTo_xor c k (by omega) (by omega)]
  refine Nat.xor_lt_two_pow (Nat.lt_trans this (Nat.pow_lt_pow_right (by omega) (by omega))) ?_
  split
  ·exact Nat.pow_lt_pow_right (by omega) (by omega)
  ·exact Nat.two_pow_pos _
theorem numTo_add (c : List Bool) (hc : c.length = 32) (k : Nat) (hk : k < 32) : numTo c (k + 1) = numTo c k + (if c[k] = true then 2 ^ k else 0) := by
 rw [numTo_xor c k hk (by omega)]
 split
 ·exact pow_xor (numTo_lt c hc k (by omega))
 ·simp
theorem numTo_all (c : List Bool) (hc : c.length = 32) : numTo c 32 = rest c := by
 unfold numTo
 rw [List.take_of_length_le (by omega)]
 rfl
theorem rest_tail (c : List Bool) (n : Nat) (hn : c.length = n + 32) (h : ∀ j (hj : j < n), c[j]'(by omega) = false) : rest c = rest (c.drop n) := by
 have e : c.take n = List.replicate n false := by
  apply List.ext_getElem
  ·simp; omega
  ·intro j h1 h2
   rw [List.getElem_take, List.getElem_replicate]
   exact h j (by simpa using h2)
 have e2 := List.take_append_drop n c
 rw [← e2, rest_append, e, rest_false, upk_zero, Nat.zero_xor]
 congr 1
 rw [List.drop_left' (by simp)]
theorem mod_step (b k : Nat) : b % 2 ^ (k + 1) = (b % 2 ^ k) ^^^ (if b.testBit k = true then 2 ^ k else 0) := by
 apply Nat.eq_of_testBit_eq
 intro i
 rw [Nat.testBit_mod_two_pow, Nat.testBit_xor, Nat.testBit_mod_two_pow]
 by_cases hi : k = i
 ·subst hi
  have h1 : decide (k < k + 1) = true := decide_eq_true (by omega)
  have h2 : decide (k < k) = false := decide_eq_false (by omega)
  rw [h1, h2]
  by_cases hb : b.testBit k = true
  ·rw [if_pos hb, Nat.testBit_two_pow_self, hb]; rfl
  ·rw [if_neg hb, Nat.zero_testBit]; simp only [Bool.not_eq_true] at hb; rw [hb]; rfl
 ·have h4 : (if b.testBit k = true then 2 ^ k else 0).testBit i = false := by
   split
   ·rw [Nat.testBit_two_pow]; simp [hi]
   ·exact Nat.zero_testBit _
  rw [h4, Bool.xor_false]
  by_cases hlt : i < k
  ·rw [decide_eq_true hlt, decide_eq_true (show i < k + 1 by omega)]
  ·rw [decide_eq_false hlt, decide_eq_false (show ¬ i < k + 1 by omega)]
theorem two_pow_unit {k : Nat} (hk : k < 32) : upk (31 - k) unit = 2 ^ k := by
 have hu : upk (31 - k) unit = 2 ^ (31 - (31 - k)) := upk_unit ⟨31 - k, by omega⟩
 rw [hu, show 31 - (31 - k) = k by omega]
theorem sumR_split (bs : List UInt8) : ∀ r s, sumR (r ^^^ s) bs = upk (8 * bs.length) r ^^^ sumR s bs := by
 induction bs with
 | nil => intro r s; rfl
 | cons c bs ih =>
  intro r s
  show sumR (upk 8 (r ^^^ s ^^^ c.toNat)) bs = _ ^^^ sumR (upk 8 (s ^^^ c.toNat)) bs
  rw [Nat.xor_assoc, upk_xor, ih, List.length_cons, ← upk_add]
  rfl
theorem sumR_from (r : Nat) (bs : List UInt8) : sumR r bs = upk (8 * bs.length) r ^^^ sumR 0 bs := by
 have := sumR_split bs r 0
 rwa [Nat.xor_zero] at this
theorem bit_step (c : List Bool) (n i k q x R : Nat) (hc : c.length = 8 * n + 32) (hi : i < n) (hk : k < 8) (h : rest c = R ^^^ upk (8 * (n - i)) (x % 2 ^ k)) (hq : 8 * i + k = q) (hj : q < c.length) (hf : c[q] = false) :
  rest (c.set q (x.testBit k)) = R ^^^ upk (8 * (n - i)) (x % 2 ^ (k + 1)) := by
 rw [rest_set c _ hj, h, mod_step, hf]
 cases hx : x.testBit k
 ·simp
 ·rw [if_neg (by simp), if_pos rfl, upk_xor, ← two_pow_unit (show k < 32 by omega), ← upk_add, Nat.xor_assoc, show c.length - 1 - q = 8 * (n - i) + (31 - k) by omega]
theorem byte_done (n i : Nat) (bs : List UInt8) (hi : i < bs.length) (hn : n = bs.length) :
  upk (8 * (n - i)) (sumR 0 (bs.take i)) ^^^ upk (8 * (n - i)) (bs[i].toNat % 2 ^ 8) = upk (8 * (n - (i + 1))) (sumR 0 (bs.take (i + 1))) := by
 have hb := byte_lt bs[i]
 rw [List.take_succ_eq_append_getElem hi, sumR_snoc, ← upk_add, show 8 * (n - (i + 1)) + 8 = 8 * (n - i) by omega, upk_xor, Nat.mod_eq_of_lt hb]
theorem front_step (c : List Bool) (n k R : Nat) (hc : c.length = 8 * n + 32) (hk : k < 32) (h : rest c = R ^^^ upk (8 * n) (4294967295 % 2 ^ k)) (hj : k < c.length) :
  rest (c.set k (!c[k])) = R ^^^ upk (8 * n) (4294967295 % 2 ^ (k + 1)) := by
 have hb : Nat.testBit 4294967295 k = true := by
  have : ∀ k : Fin 32, Nat.testBit 4294967295 k.1 = true := by decide
  exact this ⟨k, hk⟩
 rw [rest_flip c _ hj, h, mod_step, if_pos hb, upk_xor, ← two_pow_unit hk, ← upk_add, Nat.xor_assoc, show c.length - 1 - k = 8 * n + (31 - k) by omega]
theorem ref_sum (bs : List UInt8) : (sumR 0 bs ^^^ upk (8 * bs.length) 4294967295) ^^^ 4294967295 = sum bs := by
 unfold sum
 rw [sumR_from 4294967295 bs, Nat.xor_comm (sumR 0 bs)]
end Go.Proofs.Ytigmmikijjcdiaa.crcm

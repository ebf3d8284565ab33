/- What the document's division leaves, computed place by place: lists of coefficients, one of them turned; the number of 32 of them. Plain Lean. -/
import Derived.Test.YtigmmikijjcdiaaLqCrcm

namespace Go.Proofs.Ytigmmikijjcdiaa.crcm

theorem rest_cons (x : Bool) (b : List Bool) : rest (x :: b) = upk b.length (if x = true then unit else 0) ^^^ rest b := by
  show restFrom (up 0 ^^^ _) b = _
  rw [restFrom_eq, up_zero, Nat.zero_xor]
theorem cut_at (c : List Bool) (j : Nat) (h : j < c.length) : c = c.take j ++ c[j] :: c.drop (j + 1) := by
  rw [List.getElem_cons_drop]; exact (List.take_append_drop j c).symm
theorem set_at (c : List Bool) (j : Nat) (h : j < c.length) (y : Bool) : c.set j y = c.take j ++ y :: c.drop (j + 1) := by
  rw [List.set_eq_take_append_cons_drop, if_pos h]
theorem rest_set (c : List Bool) (j : Nat) (h : j < c.length) (y : Bool) : rest (c.set j y) = rest c ^^^ (if c[j] = y then 0 else upk (c.length - 1 - j) unit) := by
  have hl : (c.drop (j + 1)).length = c.length - 1 - j := by rw [List.length_drop]; omega
  have e : rest c = upk ((c.drop (j + 1)).length + 1) (rest (c.take j)) ^^^ (upk (c.drop (j + 1)).length (if c[j] = true then unit else 0) ^^^ rest (c.drop (j + 1))) := by
    rw [← rest_cons, ← List.length_cons (a := c[j]), ← rest_append, ← cut_at c j h]
  rw [e, set_at c j h y, rest_append, rest_cons, List.length_cons, hl, Nat.xor_assoc, Nat.xor_assoc]
  congr 1
  generalize hU : upk (c.length - 1 - j) unit = U
  generalize hR : rest (c.drop (j + 1)) = R
  cases hc : c[j] <;> cases y
  · simp
  · simp [upk_zero, hU, Nat.xor_comm]
  · simp [upk_zero, hU]; rw [Nat.xor_comm R, xor_cancel]
  · simp
theorem rest_flip (c : List Bool) (j : Nat) (h : j < c.length) : rest (c.set j (!c[j])) = rest c ^^^ upk (c.length - 1 - j) unit := by
  rw [rest_set c j h]
  cases c[j] <;> simp

/-- the powers that the polynomial has -/
def ps : List Nat := [32, 28, 27, 26, 25, 23, 22, 20, 19, 18, 14, 13, 11, 10, 9, 8, 6, 0]
def accP : Nat → Nat
  | 0 => 0
  | k + 1 => accP k ^^^ upk (ps.getD k 0) unit
theorem accP_all : accP 18 = 0 := by decide +kernel
theorem ps_le (k : Nat) : ps.getD k 0 ≤ 32 := by
  rcases Nat.lt_or_ge k 18 with h | h
  · have : ∀ k : Fin 18, ps.getD k.1 0 ≤ 32 := by decide
    exact this ⟨k, h⟩
  · rw [List.getD_eq_getElem?_getD, List.getElem?_eq_none (by simpa [ps] using h)]; simp
theorem ps_small {k : Nat} (h0 : 0 < k) : ps.getD k 0 < 32 := by
  rcases Nat.lt_or_ge k 18 with h | h
  · have : ∀ k : Fin 18, 0 < k.1 → ps.getD k.1 0 < 32 := by decide
    exact this ⟨k, h⟩ h0
  · rw [List.getD_eq_getElem?_getD, List.getElem?_eq_none (by simpa [ps] using h)]; simp

/-- one place more of the polynomial, laid at place i, is turned -/
theorem accP_step (c : List Bool) (i K R m a : Nat) (hm : c.length = i + 33 + m) (h : rest c = R ^^^ upk m (accP K)) (hj : a < c.length) (ha : i + 32 - ps.getD K 0 = a) :
    rest (c.set a (!c[a])) = R ^^^ upk m (accP (K + 1)) := by
  have hp := ps_le K
  rw [rest_flip c _ hj, h, accP, upk_xor, ← upk_add, Nat.xor_assoc, show c.length - 1 - a = m + ps.getD K 0 by omega]

/-- the number of the first k of 32 coefficients -/
def numTo (c : List Bool) (k : Nat) : Nat := upk (32 - k) (rest (c.take k))
theorem pow_xor {x k : Nat} (h : x < 2 ^ k) : x ^^^ 2 ^ k = x + 2 ^ k := by
  have h1 : x &&& 2 ^ k = 0 := by
    apply Nat.eq_of_testBit_eq
    intro i
    rw [Nat.testBit_and, Nat.zero_testBit, Nat.testBit_two_pow]
    by_cases hi : k = i
    · subst hi; rw [Nat.testBit_lt_two_pow h]; rfl
    · simp [hi]
  have h2 := Nat.two_pow_add_eq_or_of_lt h 1
  rw [Nat.mul_one] at h2
  rw [Nat.add_comm, h2]
  apply Nat.eq_of_testBit_eq
  intro i
  have hi : (x &&& 2 ^ k).testBit i = false := by rw [h1]; exact Nat.zero_testBit i
  rw [Nat.testBit_and] at hi
  rw [Nat.testBit_xor, Nat.testBit_or]
  revert hi
  cases x.testBit i <;> cases (2 ^ k).testBit i <;> simp
theorem numTo_zero (c : List Bool) : numTo c 0 = 0 := by unfold numTo; rw [List.take_zero]; exact upk_zero _
theorem numTo_xor (c : List Bool) (k : Nat) (hk : k < 32) (hc : k < c.length) : numTo c (k + 1) = numTo c k ^^^ (if c[k] = true then 2 ^ k else 0) := by
  unfold numTo
  rw [List.take_succ_eq_append_getElem hc, rest_append, upk_xor, List.length_singleton, ← upk_add, show 32 - (k + 1) + 1 = 32 - k by omega]
  congr 1
  have hu : upk (31 - k) unit = 2 ^ (31 - (31 - k)) := upk_unit ⟨31 - k, by omega⟩
  rw [show 31 - (31 - k) = k by omega] at hu
  rw [rest_cons, show 32 - (k + 1) = 31 - k by omega]
  cases c[k] <;> simp [upk, rest, hu, upk_zero]
theorem numTo_lt (c : List Bool) (hc : c.length = 32) : ∀ k, k ≤ 32 → numTo c k < 2 ^ k := by
  intro k
  induction k with
  | zero => intro _; rw [numTo_zero]; decide
  | succ k ih =>
    intro hk
    have := ih (by omega)
    rw [numTo_xor c k (by omega) (by omega)]
    refine Nat.xor_lt_two_pow (Nat.lt_trans this (Nat.pow_lt_pow_right (by omega) (by omega))) ?_
    split
    · exact Nat.pow_lt_pow_right (by omega) (by omega)
    · exact Nat.two_pow_pos _
theorem numTo_add (c : List Bool) (hc : c.length = 32) (k : Nat) (hk : k < 32) : numTo c (k + 1) = numTo c k + (if c[k] = true then 2 ^ k else 0) := by
  rw [numTo_xor c k hk (by omega)]
  split
  · exact pow_xor (numTo_lt c hc k (by omega))
  · simp
theorem numTo_all (c : List Bool) (hc : c.length = 32) : numTo c 32 = rest c := by
  unfold numTo
  rw [List.take_of_length_le (by omega)]
  rfl
theorem rest_tail (c : List Bool) (n : Nat) (hn : c.length = n + 32) (h : ∀ j (hj : j < n), c[j]'(by omega) = false) : rest c = rest (c.drop n) := by
  have e : c.take n = List.replicate n false := by
    apply List.ext_getElem
    · simp; omega
    · intro j h1 h2
      rw [List.getElem_take, List.getElem_replicate]
      exact h j (by simpa using h2)
  have e2 := List.take_append_drop n c
  rw [← e2, rest_append, e, rest_false, upk_zero, Nat.zero_xor]
  congr 1
  rw [List.drop_left' (by simp)]

/-- a number's lowest bits, one more -/
theorem mod_step (b k : Nat) : b % 2 ^ (k + 1) = (b % 2 ^ k) ^^^ (if b.testBit k = true then 2 ^ k else 0) := by
  apply Nat.eq_of_testBit_eq
  intro i
  rw [Nat.testBit_mod_two_pow, Nat.testBit_xor, Nat.testBit_mod_two_pow]
  by_cases hi : k = i
  · subst hi
    have h1 : decide (k < k + 1) = true := decide_eq_true (by omega)
    have h2 : decide (k < k) = false := decide_eq_false (by omega)
    rw [h1, h2]
    by_cases hb : b.testBit k = true
    · rw [if_pos hb, Nat.testBit_two_pow_self, hb]; rfl
    · rw [if_neg hb, Nat.zero_testBit]; simp only [Bool.not_eq_true] at hb; rw [hb]; rfl
  · have h4 : (if b.testBit k = true then 2 ^ k else 0).testBit i = false := by
      split
      · rw [Nat.testBit_two_pow]; simp [hi]
      · exact Nat.zero_testBit _
    rw [h4, Bool.xor_false]
    by_cases hlt : i < k
    · rw [decide_eq_true hlt, decide_eq_true (show i < k + 1 by omega)]
    · rw [decide_eq_false hlt, decide_eq_false (show ¬ i < k + 1 by omega)]
theorem two_pow_unit {k : Nat} (hk : k < 32) : upk (31 - k) unit = 2 ^ k := by
  have hu : upk (31 - k) unit = 2 ^ (31 - (31 - k)) := upk_unit ⟨31 - k, by omega⟩
  rw [hu, show 31 - (31 - k) = k by omega]

/-- the product, from the highest power down -/
def upTo (a b : Nat) : Nat → Nat
  | 0 => 0
  | i + 1 => upTo a b i ^^^ (if a.testBit i = true then upk (31 - i) b else 0)
theorem upTo_timesTo (a b : Nat) : ∀ i, i ≤ 32 → upTo a b i ^^^ timesTo a b (32 - i) = timesTo a b 32 := by
  intro i
  induction i with
  | zero => intro _; simp [upTo]
  | succ i ih =>
    intro hi
    rw [← ih (by omega), show 32 - i = (32 - (i + 1)) + 1 by omega]
    simp only [timesTo, upTo]
    rw [show 31 - (32 - (i + 1)) = i by omega, show 32 - (i + 1) = 31 - i by omega, Nat.xor_assoc]
    congr 1
    exact Nat.xor_comm _ _
theorem upTo_all (a b : Nat) : upTo a b 32 = times a b := by
  have h := upTo_timesTo a b 32 (Nat.le_refl _)
  rw [Nat.sub_self, show timesTo a b 0 = 0 from rfl, Nat.xor_zero] at h
  exact h
/-- the coefficient at place i + k of a product is turned -/
theorem prod_step (c : List Bool) (i k q b R : Nat) (hc : c.length = 63) (hi : i < 32) (hk : k < 32) (hb : b.testBit k = true) (h : rest c = R ^^^ upk (31 - i) (b % 2 ^ k)) (hq : i + k = q) (hj : q < c.length) :
    rest (c.set q (!c[q])) = R ^^^ upk (31 - i) (b % 2 ^ (k + 1)) := by
  rw [rest_flip c _ hj, h, mod_step, if_pos hb, upk_xor, ← two_pow_unit hk, ← upk_add, Nat.xor_assoc, show c.length - 1 - q = 31 - i + (31 - k) by omega]
theorem prod_skip (k b : Nat) (hb : b.testBit k = false) : b % 2 ^ (k + 1) = b % 2 ^ k := by
  rw [mod_step, hb]; simp

/-- the row of bytes, ahead of the check's own bits -/
theorem sumR_split (bs : List UInt8) : ∀ r s, sumR (r ^^^ s) bs = upk (8 * bs.length) r ^^^ sumR s bs := by
  induction bs with
  | nil => intro r s; rfl
  | cons c bs ih =>
    intro r s
    show sumR (upk 8 (r ^^^ s ^^^ c.toNat)) bs = _ ^^^ sumR (upk 8 (s ^^^ c.toNat)) bs
    rw [Nat.xor_assoc, upk_xor, ih, List.length_cons, ← upk_add]
    rfl
theorem sumR_from (r : Nat) (bs : List UInt8) : sumR r bs = upk (8 * bs.length) r ^^^ sumR 0 bs := by
  have := sumR_split bs r 0
  rwa [Nat.xor_zero] at this
/-- bit k of byte i is laid at place 8 i + k -/
theorem bit_step (c : List Bool) (n i k q x R : Nat) (hc : c.length = 8 * n + 32) (hi : i < n) (hk : k < 8) (h : rest c = R ^^^ upk (8 * (n - i)) (x % 2 ^ k)) (hq : 8 * i + k = q) (hj : q < c.length) (hf : c[q] = false) :
    rest (c.set q (x.testBit k)) = R ^^^ upk (8 * (n - i)) (x % 2 ^ (k + 1)) := by
  rw [rest_set c _ hj, h, mod_step, hf]
  cases hx : x.testBit k
  · simp
  · rw [if_neg (by simp), if_pos rfl, upk_xor, ← two_pow_unit (show k < 32 by omega), ← upk_add, Nat.xor_assoc, show c.length - 1 - q = 8 * (n - i) + (31 - k) by omega]
theorem byte_done (n i : Nat) (bs : List UInt8) (hi : i < bs.length) (hn : n = bs.length) :
    upk (8 * (n - i)) (sumR 0 (bs.take i)) ^^^ upk (8 * (n - i)) (bs[i].toNat % 2 ^ 8) = upk (8 * (n - (i + 1))) (sumR 0 (bs.take (i + 1))) := by
  have hb := byte_lt bs[i]
  rw [List.take_succ_eq_append_getElem hi, sumR_snoc, ← upk_add, show 8 * (n - (i + 1)) + 8 = 8 * (n - i) by omega, upk_xor, Nat.mod_eq_of_lt hb]
/-- one of the first 32 bits is turned -/
theorem front_step (c : List Bool) (n k R : Nat) (hc : c.length = 8 * n + 32) (hk : k < 32) (h : rest c = R ^^^ upk (8 * n) (4294967295 % 2 ^ k)) (hj : k < c.length) :
    rest (c.set k (!c[k])) = R ^^^ upk (8 * n) (4294967295 % 2 ^ (k + 1)) := by
  have hb : Nat.testBit 4294967295 k = true := by
    have : ∀ k : Fin 32, Nat.testBit 4294967295 k.1 = true := by decide
    exact this ⟨k, hk⟩
  rw [rest_flip c _ hj, h, mod_step, if_pos hb, upk_xor, ← two_pow_unit hk, ← upk_add, Nat.xor_assoc, show c.length - 1 - k = 8 * n + (31 - k) by omega]
theorem ref_sum (bs : List UInt8) : (sumR 0 bs ^^^ upk (8 * bs.length) 4294967295) ^^^ 4294967295 = sum bs := by
  unfold sum
  rw [sumR_from 4294967295 bs, Nat.xor_comm (sumR 0 bs)]
theorem ref_power (n : Nat) : rest (true :: List.replicate (8 * n) false) = power n := by
  rw [rest_cons, rest_false, Nat.xor_zero, List.length_replicate]
  rfl

/-- joined: the check of two rows -/
theorem sum_append (a b : List UInt8) : sum (a ++ b) = upk (8 * b.length) (sum a) ^^^ sum b := by
  have h : sumR 4294967295 (a ++ b) = sumR (sumR 4294967295 a) b := by unfold sumR; rw [List.foldl_append]
  unfold sum
  rw [h, sumR_from (sumR 4294967295 a) b, upk_xor, sumR_from 4294967295 b]
  generalize upk (8 * b.length) (sumR 4294967295 a) = x
  generalize upk (8 * b.length) 4294967295 = y
  generalize sumR 0 b = z
  rw [show (x ^^^ y) ^^^ ((y ^^^ z) ^^^ 4294967295) = x ^^^ (y ^^^ (y ^^^ (z ^^^ 4294967295))) by simp only [Nat.xor_assoc], xor_cancel, Nat.xor_assoc]

/-- rows of bytes, put together -/
def flatTo (bl : List (List UInt8)) (i : Nat) : List UInt8 := (bl.take i).flatten
def flatFrom (bl : List (List UInt8)) (i : Nat) : List UInt8 := (bl.drop i).flatten
theorem flatTo_succ {bl : List (List UInt8)} {i : Nat} (h : i < bl.length) : flatTo bl (i + 1) = flatTo bl i ++ bl[i] := by
  unfold flatTo; rw [List.take_succ_eq_append_getElem h, List.flatten_append, List.flatten_cons, List.flatten_nil, List.append_nil]
theorem flatFrom_succ {bl : List (List UInt8)} {i : Nat} (h : i < bl.length) : flatFrom bl i = bl[i] ++ flatFrom bl (i + 1) := by
  unfold flatFrom; rw [List.drop_eq_getElem_cons h, List.flatten_cons]
theorem flatFrom_end (bl : List (List UInt8)) : flatFrom bl bl.length = [] := by unfold flatFrom; simp
theorem flatFrom_zero (bl : List (List UInt8)) : flatFrom bl 0 = flatTo bl bl.length := by unfold flatFrom flatTo; simp
theorem flatTo_lt (bl : List (List UInt8)) (m : Nat) (hm : ∀ b ∈ bl, b.length ≤ m) : ∀ i, (flatTo bl i).length ≤ i * m := by
  intro i
  induction i with
  | zero => simp [flatTo]
  | succ i ih =>
    rcases Nat.lt_or_ge i bl.length with h | h
    · rw [flatTo_succ h, List.length_append, Nat.add_mul]
      have := hm _ (List.getElem_mem h)
      omega
    · have : flatTo bl (i + 1) = flatTo bl i := by unfold flatTo; rw [List.take_of_length_le (by omega), List.take_of_length_le h]
      rw [this, Nat.add_mul]
      omega
theorem flatFrom_split (bl : List (List UInt8)) (j : Nat) : flatTo bl bl.length = flatTo bl j ++ flatFrom bl j := by
  unfold flatTo flatFrom
  rw [← List.flatten_append, List.take_append_drop, List.take_length]
theorem flatTo_all (bl : List (List UInt8)) (n : Nat) (hn : bl.length ≤ n) (i : Nat) : (flatTo bl i).length ≤ (flatTo bl n).length := by
  unfold flatTo
  rw [List.take_of_length_le hn]
  have h := congrArg (fun l => (List.flatten l).length) (List.take_append_drop i bl)
  simp only [List.flatten_append, List.length_append] at h
  omega
theorem sum_flat {bl : List (List UInt8)} {i : Nat} (h : i < bl.length) : sum (flatTo bl (i + 1)) = upk (8 * (bl[i]).length) (sum (flatTo bl i)) ^^^ sum bl[i] := by
  rw [flatTo_succ h, sum_append]
theorem sum_from {bl : List (List UInt8)} {i : Nat} (h : i < bl.length) : sum (flatFrom bl i) = upk (8 * (flatFrom bl (i + 1)).length) (sum bl[i]) ^^^ sum (flatFrom bl (i + 1)) := by
  rw [flatFrom_succ h, sum_append]
theorem sum_cut (l : List UInt8) (k : Nat) : upk (8 * (l.drop k).length) (sum (l.take k)) ^^^ sum (l.drop k) = sum l := by
  rw [← sum_append, List.take_append_drop]

/-- how many bits are 1 -/
def popF : Nat → Nat → Nat
  | 0, _ => 0
  | f + 1, n => n % 2 + popF f (n / 2)
def pop (n : Nat) : Nat := popF 32 n
def par (n : Nat) : Nat := pop n % 2
theorem popF_more : ∀ f n, n < 2 ^ f → popF (f + 1) n = popF f n := by
  intro f
  induction f with
  | zero => intro n h; have : n = 0 := by simpa using h
            subst this; rfl
  | succ f ih =>
    intro n h
    rw [popF, ih (n / 2) (by rw [Nat.pow_succ] at h; omega)]
    rfl
theorem pop_step (n : Nat) (h : n < 4294967296) : pop n = n % 2 + pop (n / 2) := by
  unfold pop
  rw [popF_more 31 (n / 2) (by omega) |> fun e => (show popF 32 (n / 2) = popF 31 (n / 2) from e)]
  rfl
theorem pop_zero : pop 0 = 0 := by decide
theorem popF_le : ∀ f n, popF f n ≤ f := by
  intro f
  induction f with
  | zero => intro n; exact Nat.le_refl _
  | succ f ih => intro n; have := ih (n / 2); rw [popF]; omega
theorem pop_le (n : Nat) : pop n ≤ 32 := popF_le 32 n
theorem popF_xor : ∀ f a b, popF f (a ^^^ b) % 2 = (popF f a + popF f b) % 2 := by
  intro f
  induction f with
  | zero => intro a b; rfl
  | succ f ih =>
    intro a b
    have h := ih (a / 2) (b / 2)
    have hm : (a ^^^ b) % 2 = 1 ↔ ¬ (a % 2 = 1 ↔ b % 2 = 1) := Nat.xor_mod_two_eq_one
    simp only [popF]
    rw [xor_half]
    generalize popF f (a / 2 ^^^ b / 2) = x at h ⊢
    generalize popF f (a / 2) = y at h ⊢
    generalize popF f (b / 2) = z at h ⊢
    generalize a ^^^ b = c at hm ⊢
    rcases Nat.mod_two_eq_zero_or_one a with ha | ha <;> rcases Nat.mod_two_eq_zero_or_one b with hb | hb <;> simp [ha, hb] at hm <;> omega
theorem par_xor (a b : Nat) : par (a ^^^ b) = (par a + par b) % 2 := by
  unfold par pop
  rw [popF_xor]
  omega
theorem par_up (r : Nat) (h : r < 4294967296) : par (up r) = par r := by
  have hs := pop_step r h
  unfold up
  split
  · rename_i h1
    rw [par_xor]
    have hL : par 2197175160 = 1 := by decide +kernel
    rw [hL]
    unfold par
    omega
  · unfold par
    omega
theorem par_upk (k r : Nat) (h : r < 4294967296) : par (upk k r) = par r := by
  induction k with
  | zero => rfl
  | succ k ih => rw [upk, par_up _ (upk_lt k r h), ih]
theorem par_lt (n : Nat) : par n < 2 := Nat.mod_lt _ (by omega)
def parL (bs : List UInt8) : Nat := (bs.map fun c => par c.toNat).sum
theorem par_sumR (bs : List UInt8) : ∀ r, r < 4294967296 → par (sumR r bs) = (par r + parL bs) % 2 := by
  induction bs with
  | nil => intro r _; have := par_lt r; simp [sumR, parL]; omega
  | cons c bs ih =>
    intro r hr
    have hx : r ^^^ c.toNat < 4294967296 := Nat.xor_lt_two_pow (n := 32) hr (by have := byte_lt c; omega)
    show par (sumR (upk 8 (r ^^^ c.toNat)) bs) = _
    rw [ih _ (upk_lt 8 _ hx), par_upk 8 _ hx, par_xor]
    simp only [parL, List.map_cons, List.sum_cons]
    omega
/-- how many bits two rows differ in, place by place, each modulo 2 -/
def diffTo (a b : List UInt8) : Nat → Nat
  | 0 => 0
  | k + 1 => diffTo a b k + par ((a.getD k 0).toNat ^^^ (b.getD k 0).toNat)
theorem diffTo_le (a b : List UInt8) (k : Nat) : diffTo a b k ≤ k := by
  induction k with
  | zero => exact Nat.le_refl _
  | succ k ih => have := par_lt ((a.getD k 0).toNat ^^^ (b.getD k 0).toNat); rw [diffTo]; omega
theorem parL_take (a : List UInt8) (k : Nat) (h : k < a.length) : parL (a.take (k + 1)) = parL (a.take k) + par (a.getD k 0).toNat := by
  rw [List.take_succ_eq_append_getElem h, List.getD_eq_getElem?_getD, List.getElem?_eq_getElem h]
  simp only [parL, List.map_append, List.sum_append, List.map_cons, List.map_nil, List.sum_cons, List.sum_nil, Option.getD_some, Nat.add_zero]
theorem diffTo_par (a b : List UInt8) (hl : a.length = b.length) : ∀ k, k ≤ a.length → diffTo a b k % 2 = (parL (a.take k) + parL (b.take k)) % 2 := by
  intro k
  induction k with
  | zero => intro _; rfl
  | succ k ih =>
    intro hk
    have := ih (by omega)
    rw [diffTo, parL_take a k (by omega), parL_take b k (by omega), par_xor]
    omega
theorem par_sums (a b : List UInt8) (hl : a.length = b.length) : par (sum a ^^^ sum b) = diffTo a b a.length % 2 := by
  rw [diffTo_par a b hl _ (Nat.le_refl _), List.take_length, hl, List.take_length]
  unfold sum
  rw [xor_swap, Nat.xor_self, Nat.xor_zero, par_xor, par_sumR a _ (by decide), par_sumR b _ (by decide)]
  omega

end Go.Proofs.Ytigmmikijjcdiaa.crcm

/- The plain law of fields: bytes of numbers, their order, their halves. -/
import Derived.Test.YtigmmikijjcdiaaLqFre

namespace Go.Proofs.Ytigmmikijjcdiaa
open Go.RowKit
set_option linter.unusedVariables false

theorem num_be (n m : Nat) : num (be n m) = m % 256 ^ n := by
  induction n generalizing m with
  | zero => simp [be, num, Nat.mod_one]
  | succ n ih =>
    have e : m % 256 ^ (n + 1) = m % 256 + 256 * (m / 256 % 256 ^ n) := by rw [Nat.pow_succ, Nat.mul_comm (256 ^ n) 256, Nat.mod_mul]
    rw [be, num_snoc, ih, e, UInt8.toNat_ofNat']
    omega
theorem be_mod (n m k : Nat) : be n (m % 256 ^ (n + k)) = be n m := by
  induction n generalizing m with
  | zero => rfl
  | succ n ih =>
    rw [be, be]
    have h1 : m % 256 ^ (n + 1 + k) / 256 = m / 256 % 256 ^ (n + k) := by
      rw [show n + 1 + k = (n + k) + 1 by omega, Nat.pow_succ, Nat.mul_comm (256 ^ (n + k)) 256, Nat.mod_mul]
      omega
    rw [h1, ih]
    congr 2
    apply UInt8.toNat_inj.1
    simp only [UInt8.toNat_ofNat']
    exact Nat.mod_mod_of_dvd m (by rw [show n + 1 + k = (n + k) + 1 by omega, Nat.pow_succ]; exact Nat.dvd_mul_left _ _)
theorem be_drop (k n m : Nat) : (be (k + n) m).drop k = be n m := by
  induction n generalizing m with
  | zero => rw [Nat.add_zero]; exact List.drop_of_length_le (by rw [be_len]; exact Nat.le_refl _)
  | succ n ih => rw [show k + (n + 1) = (k + n) + 1 by omega, be, be, List.drop_append_of_le_length (by rw [be_len]; omega), ih]
theorem be_inj {n a b : Nat} (ha : a < 256 ^ n) (hb : b < 256 ^ n) (h : be n a = be n b) : a = b := by
  have := congrArg num h
  rw [num_be, num_be, Nat.mod_eq_of_lt ha, Nat.mod_eq_of_lt hb] at this
  exact this
theorem less_snoc : ∀ (x y : List UInt8) (c d : UInt8), x.length = y.length → Op.bytesLess (x ++ [c]) (y ++ [d]) = (Op.bytesLess x y || (x == y && decide (c < d)))
  | [], [], c, d, _ => by simp [Op.bytesLess]
  | a :: x, b :: y, c, d, h => by
    have ih := less_snoc x y c d (by simpa using h)
    rw [List.cons_append, List.cons_append, Op.bytesLess, Op.bytesLess, ih, List.cons_beq_cons]
    cases (decide (a < b)) <;> cases (a == b) <;> simp
theorem less_be {n a b : Nat} (ha : a < 256 ^ n) (hb : b < 256 ^ n) : Op.bytesLess (be n a) (be n b) = decide (a < b) := by
  induction n generalizing a b with
  | zero => simp at ha hb; subst ha hb; rfl
  | succ n ih =>
    have h1 : a / 256 < 256 ^ n := by rw [Nat.pow_succ] at ha; omega
    have h2 : b / 256 < 256 ^ n := by rw [Nat.pow_succ] at hb; omega
    rw [be, be, less_snoc _ _ _ _ (by rw [be_len, be_len]), ih h1 h2]
    have h3 : (be n (a / 256) == be n (b / 256)) = decide (a / 256 = b / 256) := by
      by_cases h : a / 256 = b / 256
      · rw [h]; simp
      · rw [decide_eq_false h]
        exact beq_eq_false_iff_ne.2 (fun e => h (be_inj h1 h2 e))
    have h4 : decide (UInt8.ofNat a < UInt8.ofNat b) = decide (a % 256 < b % 256) := by
      apply decide_eq_decide.2
      rw [UInt8.lt_iff_toNat_lt, UInt8.toNat_ofNat', UInt8.toNat_ofNat']
    rw [h3, h4, Bool.eq_iff_iff]
    simp only [Bool.or_eq_true, Bool.and_eq_true, decide_eq_true_eq]
    omega

end Go.Proofs.Ytigmmikijjcdiaa

/- Bits that lie apart: or is the sum. -/
import Derived.Test.YtihlhkbdgbkafaaProg
import Derived.IntWalk
import Derived.Lib.EndianBits
namespace Go.Proofs.Ytihlhkbdgbkafaa
open Go.RowKit
set_option linter.unusedVariables false
theorem bits_or64 {a b k : Nat} (hk : k ≤ 64) (ha : a * 2 ^ k < 2 ^ 64) (hb : b < 2 ^ k) : bits .or .u64 ((a * 2 ^ k : Nat) : Int) (b : Int) = ((a * 2 ^ k + b : Nat) : Int) := by
  have e0 : a * 2 ^ k ||| b = a * 2 ^ k + b := by rw [Nat.mul_comm, Nat.two_pow_add_eq_or_of_lt hb]
  have h2 : b < 2 ^ 64 := Nat.lt_of_lt_of_le hb (Nat.pow_le_pow_right (by decide) hk)
  generalize a * 2 ^ k = m at ha e0 ⊢
  have h3 : m ||| b < 2 ^ 64 := Nat.or_lt_two_pow ha h2
  have e1 : (BitVec.ofInt 64 (m : Int)).toNat = m := by
    rw [BitVec.ofInt_natCast, BitVec.toNat_ofNat]; exact Nat.mod_eq_of_lt ha
  have e2 : (BitVec.ofInt 64 (b : Int)).toNat = b := by
    rw [BitVec.ofInt_natCast, BitVec.toNat_ofNat]; exact Nat.mod_eq_of_lt h2
  show IntKind.u64.wrap ((BitVec.ofInt 64 (m : Int) ||| BitVec.ofInt 64 (b : Int)).toNat : Int) = _
  rw [BitVec.toNat_or, e1, e2, IntKind.wrap_u64, e0]
  rw [e0] at h3
  omega
end Go.Proofs.Ytihlhkbdgbkafaa

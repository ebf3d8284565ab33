/- The product of fixed numbers. (printed by gen/mul.py) -/
import Derived.Test.YtihlhkbdgbkafaaShb
import Derived.Test.YtihlhkbdgbkafaaBor
import Derived.Test.YtihlhkbdgbkafaaAst
namespace Go.Proofs.Ytihlhkbdgbkafaa
open Go.RowKit
set_option linter.unusedVariables false
set_option linter.unusedSimpArgs false
def mulF (a b : Nat) : Nat × Nat := if 4611686018427387904 < a * b / 4294967296 then (0, 50) else (a * b / 4294967296, 0)
theorem mul_x {hi lo P : Nat} (e0 : hi * 18446744073709551616 + lo = P) : hi * 4294967296 + lo / 4294967296 = P / 4294967296 := by
  have e1 : P = lo + (hi * 4294967296) * 4294967296 := by rw [← e0, Nat.mul_assoc, Nat.add_comm]
  rw [e1, Nat.add_mul_div_right _ _ (by decide), Nat.add_comm]
theorem mul_parts (a b : Nat) (ha : a ≤ 9223372036854775807) (hb : b ≤ 9223372036854775807) : a * b ≤ 85070591730234615847396907784232501249 := Nat.mul_le_mul ha hb
set_option maxRecDepth 100000 in
set_option maxHeartbeats 4000000 in
theorem fmul_any (w : World) (a b : Nat) (ha : a ≤ 9223372036854775807) (hb : b ≤ 9223372036854775807) : Calls Try.prog 91 #[.int .i64 (a : Int), .int .i64 (b : Int)] w fun e w' => e = .returned (.tuple #[.int .i64 ((mulF a b).1 : Int), .int .i64 ((mulF a b).2 : Int)]) ∧ w = w' := by
  have hP := mul_parts a b ha hb
  obtain ⟨m, hm⟩ : ∃ m, mulF a b = m := ⟨_, rfl⟩
  have HM : Hid ((if 4611686018427387904 < a * b / 4294967296 then (0, 50) else (a * b / 4294967296, 0)) = m) := hide hm
  obtain ⟨P, hp⟩ : ∃ P, a * b = P := ⟨_, rfl⟩
  have hmul := sh_bits_Mul64 a b (by omega) (by omega)
  rw [hp] at hP hmul HM
  rw [hm]
  obtain ⟨hi, hhi⟩ : ∃ z, P / 18446744073709551616 = z := ⟨_, rfl⟩
  obtain ⟨lo, hlo⟩ : ∃ z, P % 18446744073709551616 = z := ⟨_, rfl⟩
  rw [hhi, hlo] at hmul
  have e0 : hi * 18446744073709551616 + lo = P := by omega
  have l1 : lo < 18446744073709551616 := by omega
  have l2 : hi < 4611686018427387904 := by omega
  have HC := hide hmul
  have E0 := hide (And.intro e0 (And.intro l1 (And.intro l2 hP)))
  have x1 : IntKind.u64.wrap (a : Int) = (a : Int) := IntWalk.u64_in _ (by omega)
  have x2 : IntKind.u64.wrap (b : Int) = (b : Int) := IntWalk.u64_in _ (by omega)
  have n1 : ¬ (a : Int) < 0 := by omega
  have n2 : ¬ (b : Int) < 0 := by omega
  clear hmul hhi hlo hp hm e0 l1 l2 hP ha hb
  go_enter Try.func91, Try.ntmps91
  go_wp2_with fail
  refine (HC.out _).mono ?_
  rintro e w1 ⟨rfl, rfl⟩
  obtain ⟨e0, l1, l2, hP⟩ := E0.out
  by_cases hh : hi < 4294967296
  · obtain ⟨x, hx⟩ : ∃ x, P / 4294967296 = x := ⟨_, rfl⟩
    have hM := HM.out
    rw [hx] at hM
    have hx2 : hi * 4294967296 + lo / 4294967296 = x := (mul_x e0).trans hx
    have e : bits .or .u64 ((hi : Int) * 4294967296) ((lo : Int) / 4294967296) = (x : Int) := by
      have e := bits_or64 (a := hi) (b := lo / 4294967296) (k := 32) (by decide) (by omega) (by omega)
      rw [show ((hi * 2 ^ 32 : Nat) : Int) = (hi : Int) * 4294967296 by omega, show ((lo / 4294967296 : Nat) : Int) = (lo : Int) / 4294967296 by omega] at e
      rw [e]; omega
    have hz : (hi : Int) / 4294967296 = 0 := by omega
    have w1 : IntKind.u64.wrap ((hi : Int) * 4294967296) = (hi : Int) * 4294967296 := IntWalk.u64_in _ (by omega)
    by_cases hlt : 4611686018427387904 < x
    · have hlt' : (4611686018427387904 : Int) < (x : Int) := by omega
      rw [if_pos hlt] at hM
      have HM2 := hide hM
      clear e0 l1 l2 hP hx hx2 hM hh hlt
      go_wp2
      exact bodyPost_ret (by simp [results, Try.results91, go_sem]; try rfl) rfl ⟨by rw [← HM2.out]; rfl, rfl⟩
    · have hlt' : ¬ (4611686018427387904 : Int) < (x : Int) := by omega
      have w2 : wrap64 (x : Int) = (x : Int) := IntWalk.wrap64_in _ (by omega)
      rw [if_neg hlt] at hM
      have HM2 := hide hM
      clear e0 l1 l2 hP hx hx2 hM hh hlt
      go_wp2
      exact bodyPost_ret (by simp [results, Try.results91, go_sem]; try rfl) rfl ⟨by rw [← HM2.out]; rfl, rfl⟩
  · have hz : 0 < (hi : Int) / 4294967296 := by omega
    have hM := HM.out
    rw [if_pos (by omega)] at hM
    have HM2 := hide hM
    clear e0 l1 l2 hP hM hh
    go_wp2
    exact bodyPost_ret (by simp [results, Try.results91, go_sem]; try rfl) rfl ⟨by rw [← HM2.out]; rfl, rfl⟩
end Go.Proofs.Ytihlhkbdgbkafaa

/- Lemmas: Gfc. -/
import Derived.Test.YtihdpfjonkagaaaProg
import Derived.Lib.Hide
import Derived.WalkSpells
import Derived.WalkMore
import Derived.Deep.RegionHeld3
import Derived.Test.YtihdpfjonkagaaaPkWw1
set_option linter.unusedVariables false
set_option linter.unusedSimpArgs false
set_option maxRecDepth 100000
set_option maxHeartbeats 16000000
namespace Go.Proofs.Ytihdpfjonkagaaa
open Go.RowKit
theorem ret_i64 {x y : Int} (h : x = y) : Ending.returned (.int .i64 x) = .returned (.int .i64 y) := by rw [h]
theorem ret_bool {x y : Bool} (h : x = y) : Ending.returned (.bool x) = .returned (.bool y) := by rw [h]
theorem nan_any (w : World) (a : Int) : Calls Try.prog 59 #[.int .i64 a] w fun e w' => e = .returned (.bool false) ∧ w' = w := by
 go_enter Try.func59, Try.ntmps59
 go_wp2
 go_ret
 exact ⟨rfl, rfl⟩
def cmpOf (a b : Int) : Int := if a < b then -1 else if b < a then 1 else 0
theorem compare_any (w : World) (a b : Int) : Calls Try.prog 56 #[.int .i64 a, .int .i64 b] w fun e w' => e = .returned (.int .i64 (cmpOf a b)) ∧ w' = w := by
 go_enter Try.func56, Try.ntmps56
 go_wp2_with fail
 refine (nan_any _ a).mono ?_
 rintro e w1 ⟨rfl, rfl⟩
 go_wp2_with fail
 refine (nan_any _ b).mono ?_
 rintro e w1 ⟨rfl, rfl⟩
 go_wp2
 all_goals
  go_ret
  exact ⟨ret_i64 (by unfold cmpOf; (repeat' split) <;> omega), rfl⟩
def fitsB (f t x V : Int) : Bool := decide (0 ≤ min f t) && decide (max f t < V) && decide (0 ≤ x) && decide (x < 2147483648)
theorem fits_any (w : World) (f t x V : Int) : Calls Try.prog 47 #[.agg #[.int .i64 f, .int .i64 t, .int .i64 x], .int .i64 V] w fun e w' => e = .returned (.bool (fitsB f t x V)) ∧ Below w.heap.size w w' := by
 have hb : Below w.heap.size w (w.alloc (.cells #[.int .i64 f, .int .i64 t, .int .i64 x] 44)) := (Below.refl _ _).alloc (Nat.le_refl _) _
 have HB := hide hb
 clear hb
 go_enter Try.func47, Try.ntmps47
 go_wp2
 all_goals
  go_ret
  exact ⟨ret_bool (by unfold fitsB; first | rfl | (rw [Bool.eq_iff_iff]; simp only [Bool.and_eq_true, decide_eq_true_eq, Bool.false_eq_true, eq_self_iff_true, true_iff, false_iff]; omega)), HB.out⟩
end Go.Proofs.Ytihdpfjonkagaaa

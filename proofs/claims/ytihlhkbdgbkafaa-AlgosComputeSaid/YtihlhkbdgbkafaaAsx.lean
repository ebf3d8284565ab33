/- Which jobs may be. (printed by gen/asx.py) -/
import Derived.Test.YtihlhkbdgbkafaaAsv
import Derived.Test.YtihlhkbdgbkafaaPck
namespace Go.Proofs.Ytihlhkbdgbkafaa
open Go.RowKit
set_option linter.unusedVariables false
set_option linter.unusedSimpArgs false
def mayK (k j2 j3 j4 V : Int) : Bool := if k = 1 then decide (0 ≤ j3) && decide (j3 ≤ 4294967296) && decide (0 ≤ j4) && decide (j4 ≤ 4294967296) && decide (j2 = 0) else if k = 2 then decide (j3 = 0) && decide (j4 = 0) && decide (j2 = 0) else decide (j3 = 0) && decide (j4 = 0) && decide (0 ≤ j2) && decide (j2 < V)
set_option maxRecDepth 100000 in
set_option maxHeartbeats 4000000 in
theorem may1_any (w : World) (k j1 j2 j3 j4 V : Int) : Calls Try.prog 82 #[.agg #[], .agg #[.int .u8 k, .int .i64 j1, .int .i64 j2, .int .i64 j3, .int .i64 j4], .int .i64 V] w fun e w' => e = .returned (.bool (mayK 1 j2 j3 j4 V)) ∧ Below w.heap.size w w' := by
  go_enter Try.func82, Try.ntmps82
  go_wp2
  all_goals
    go_ret
    refine ⟨?_, ((Below.refl _ w).alloc (Nat.le_refl _) _).alloc (by simp) _⟩
    refine ret_b ?_
    rw [Bool.eq_iff_iff]
    first | (simp [mayK]; done) | (simp [mayK]; omega) | (simp_all [mayK]; done) | (simp_all [mayK]; omega)
set_option maxRecDepth 100000 in
set_option maxHeartbeats 4000000 in
theorem may2_any (w : World) (k j1 j2 j3 j4 V : Int) : Calls Try.prog 94 #[.agg #[], .agg #[.int .u8 k, .int .i64 j1, .int .i64 j2, .int .i64 j3, .int .i64 j4], .int .i64 V] w fun e w' => e = .returned (.bool (mayK 2 j2 j3 j4 V)) ∧ Below w.heap.size w w' := by
  go_enter Try.func94, Try.ntmps94
  go_wp2
  all_goals
    go_ret
    refine ⟨?_, ((Below.refl _ w).alloc (Nat.le_refl _) _).alloc (by simp) _⟩
    refine ret_b ?_
    rw [Bool.eq_iff_iff]
    first | (simp [mayK]; done) | (simp [mayK]; omega) | (simp_all [mayK]; done) | (simp_all [mayK]; omega)
set_option maxRecDepth 100000 in
set_option maxHeartbeats 4000000 in
theorem may3_any (w : World) (k j1 j2 j3 j4 V : Int) : Calls Try.prog 124 #[.agg #[], .agg #[.int .u8 k, .int .i64 j1, .int .i64 j2, .int .i64 j3, .int .i64 j4], .int .i64 V] w fun e w' => e = .returned (.bool (mayK 3 j2 j3 j4 V)) ∧ Below w.heap.size w w' := by
  go_enter Try.func124, Try.ntmps124
  go_wp2
  all_goals
    go_ret
    refine ⟨?_, ((Below.refl _ w).alloc (Nat.le_refl _) _).alloc (by simp) _⟩
    refine ret_b ?_
    rw [Bool.eq_iff_iff]
    first | (simp [mayK]; done) | (simp [mayK]; omega) | (simp_all [mayK]; done) | (simp_all [mayK]; omega)
end Go.Proofs.Ytihlhkbdgbkafaa

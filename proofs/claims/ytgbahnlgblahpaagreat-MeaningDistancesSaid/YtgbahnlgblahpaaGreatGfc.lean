/- cmp.Compare; an edge that fits a graph. -/
import Derived.Test.YtgbahnlgblahpaaGreatProg
import Derived.Test.YtgbahnlgblahpaaGreatMem
import Derived.Lib.Hide
import Derived.WalkSpells
import Derived.WalkMore
import Derived.Deep.RegionHeld3
namespace Go.Proofs.YtgbahnlgblahpaaGreat
open Go.RowKit
set_option linter.unusedVariables false
set_option linter.unusedSimpArgs false

theorem ret_i64 {x y : Int} (h : x = y) : Ending.returned (.int .i64 x) = .returned (.int .i64 y) := by rw [h]
theorem ret_bool {x y : Bool} (h : x = y) : Ending.returned (.bool x) = .returned (.bool y) := by rw [h]
set_option maxRecDepth 100000 in
theorem nan_any (w : World) (a : Int) : Calls Tryz.prog 78 #[.int .i64 a] w fun e w' => e = .returned (.bool false) ∧ w' = w := by
  go_enter Tryz.func78, Tryz.ntmps78
  go_wp2
  go_ret
  exact ⟨rfl, rfl⟩
def cmpOf (a b : Int) : Int := if a < b then -1 else if b < a then 1 else 0
set_option maxRecDepth 100000 in
set_option maxHeartbeats 1000000 in
theorem compare_any (w : World) (a b : Int) : Calls Tryz.prog 66 #[.int .i64 a, .int .i64 b] w fun e w' => e = .returned (.int .i64 (cmpOf a b)) ∧ w' = w := by
  go_enter Tryz.func66, Tryz.ntmps66
  go_wp2_with fail
  refine (nan_any _ a).mono ?_
  rintro e w1 ⟨rfl, rfl⟩
  go_wp2_with fail
  refine (nan_any _ b).mono ?_
  rintro e w1 ⟨rfl, rfl⟩
  go_wp2
  all_goals
    go_ret
    exact ⟨ret_i64 (by unfold cmpOf; (repeat' split) <;> omega), rfl⟩
def fitsB (f t x V : Int) : Bool := decide (0 ≤ min f t) && decide (max f t < V) && decide (0 ≤ x) && decide (x < 2147483648)
set_option maxRecDepth 100000 in
set_option maxHeartbeats 1000000 in
theorem fits_any (w : World) (f t x V : Int) : Calls Tryz.prog 45 #[.agg #[.int .i64 f, .int .i64 t, .int .i64 x], .int .i64 V] w fun e w' => e = .returned (.bool (fitsB f t x V)) ∧ Below w.heap.size w w' := by
  have hb : Below w.heap.size w (w.alloc (.cells #[.int .i64 f, .int .i64 t, .int .i64 x] 46)) := (Below.refl _ _).alloc (Nat.le_refl _) _
  have HB := hide hb
  clear hb
  go_enter Tryz.func45, Tryz.ntmps45
  go_wp2
  all_goals
    go_ret
    exact ⟨ret_bool (by unfold fitsB; first | rfl | (rw [Bool.eq_iff_iff]; simp only [Bool.and_eq_true, decide_eq_true_eq, Bool.false_eq_true, eq_self_iff_true, true_iff, false_iff]; omega)), HB.out⟩
end Go.Proofs.YtgbahnlgblahpaaGreat

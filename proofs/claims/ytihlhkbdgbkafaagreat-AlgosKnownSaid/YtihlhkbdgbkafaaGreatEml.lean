/- A graph that is made: Mill. (printed by gen/egr.py) -/
import Derived.Test.YtihlhkbdgbkafaaGreatProg
import Derived.Test.YtihlhkbdgbkafaaGreatOap
import Derived.Lib.Hide
import Derived.WalkSpells
import Derived.WalkMore
import Derived.IntWalk
namespace Go.Proofs.YtihlhkbdgbkafaaGreat
open Go.RowKit
set_option linter.unusedVariables false
set_option linter.unusedSimpArgs false
def millE : List Ed := [(0, 1, 4), (0, 2, 1), (1, 3, 5), (2, 1, 2), (4, 4, 7)]
set_option maxRecDepth 100000 in
set_option maxHeartbeats 2000000 in
theorem mill_any (w : World) : Calls Tryz.prog 4 #[] w (GraphPost w 6 millE) := by
  go_enter Tryz.func4, Tryz.ntmps4
  go_wp2
  refine bodyPost_ret (v := .agg #[.int .i64 6, .slice (some ⟨w.heap.size + 1, 0, none⟩) 5 5]) (by simp [results, Tryz.results4, go_sem]) rfl ?_
  refine ⟨some ⟨w.heap.size + 1, 0, none⟩, 5, rfl, ?_, by decide, by decide, ((Below.refl _ _).alloc (Nat.le_refl _) _).alloc (by simp) _⟩
  refine Eds.of_rd ?_ (wt_of (by decide))
  have := Rd.new (w.alloc (.cells #[.int .i64 6, .slice (some ⟨w.heap.size + 1, 0, none⟩) 5 5] 24)) (edFlat millE).toArray 39 (0, 0)
  rw [World.size_alloc] at this
  exact this.more (by simp)
end Go.Proofs.YtihlhkbdgbkafaaGreat

/- The closure by which edges are sorted: the wrapped difference of both From. -/
import Derived.Test.YtihdpfjonkagaaaProg
import Derived.Test.YtihdpfjonkagaaaOap
import Derived.Deep.DeepCutAuto
import Derived.Lib.Hide
import Derived.WalkSpells
import Derived.WalkMore
import Derived.IntWalk
namespace Go.Proofs.Ytihdpfjonkagaaa
open Go.RowKit
set_option linter.unusedVariables false
set_option linter.unusedSimpArgs false
set_option maxRecDepth 100000 in
set_option maxHeartbeats 4000000 in
theorem join1_any (w : World) (x y : Ed) : Calls Try.prog 40 #[.agg #[.int .i64 x.1, .int .i64 x.2.1, .int .i64 x.2.2], .agg #[.int .i64 y.1, .int .i64 y.2.1, .int .i64 y.2.2]] w fun e w' => e = .returned (.int .i64 (wrap64 (x.1 - y.1))) ∧ Below w.heap.size w w' := by
  obtain ⟨a1, a2, a3⟩ := x
  obtain ⟨b1, b2, b3⟩ := y
  obtain ⟨u, hu⟩ : ∃ u, (w.alloc (.cells #[.int .i64 a1, .int .i64 a2, .int .i64 a3] 44)).alloc (.cells #[.int .i64 b1, .int .i64 b2, .int .i64 b3] 44) = u := ⟨_, rfl⟩
  have hbu := hide (show Below w.heap.size w u by rw [← hu]; exact ((Below.refl _ _).alloc (Nat.le_refl _) _).alloc (by simp) _)
  have M0 : u.heap[w.heap.size]? = some (.cells #[.int .i64 a1, .int .i64 a2, .int .i64 a3] 44) := by rw [← hu]; exact (Below.heap_alloc _ _ _ (by simp)).trans (heap_alloc_last w _)
  have M1 : u.heap[w.heap.size + 1]? = some (.cells #[.int .i64 b1, .int .i64 b2, .int .i64 b3] 44) := by
    rw [← hu]
    have := heap_alloc_last (w.alloc (.cells #[.int .i64 a1, .int .i64 a2, .int .i64 a3] 44)) (.cells #[.int .i64 b1, .int .i64 b2, .int .i64 b3] 44)
    rw [World.size_alloc] at this
    exact this
  have HU := hide hu
  clear hu
  have c0 : u.cell? ⟨w.heap.size, 0, none⟩ = some (.int .i64 a1) := cell_of_row _ _ 0 _ _ _ M0
  have c1 : u.cell? ⟨w.heap.size + 1, 0, none⟩ = some (.int .i64 b1) := cell_of_row _ _ 0 _ _ _ M1
  clear M0 M1
  go_enter Try.func40, Try.ntmps40
  go_wp2_with fail
  rw [HU.out]
  go_wp2
  go_ret
  exact ⟨rfl, hbu.out⟩
end Go.Proofs.Ytihdpfjonkagaaa

/- Done of jobs: algos and the document. (printed by gen/asv.py) -/
import Derived.Test.YtihlhkbdgbkafaaAsu
namespace Go.Proofs.Ytihlhkbdgbkafaa
open Go.RowKit
set_option linter.unusedVariables false
set_option linter.unusedSimpArgs false
set_option maxRecDepth 100000 in
set_option maxHeartbeats 4000000 in
theorem done_any (w : World) (k j1 j2 j3 j4 st mo : Int) : Calls Try.prog 14 #[.agg #[.int .u8 k, .int .i64 j1, .int .i64 j2, .int .i64 j3, .int .i64 j4], .int .i64 st, .int .i64 mo] w fun e w' => e = .returned (.bool (doneF k j1 j4 st mo)) ∧ Below w.heap.size w w' := by
  obtain ⟨u, hu⟩ : ∃ u, w.alloc (.cells #[.int .u8 k, .int .i64 j1, .int .i64 j2, .int .i64 j3, .int .i64 j4] 26) = u := ⟨_, rfl⟩
  have hzu : w.heap.size < u.heap.size := by rw [← hu]; simp
  have hbu := hide (show Below w.heap.size w u by rw [← hu]; exact (Below.refl _ _).alloc (Nat.le_refl _) _)
  have M0 := hide (show u.heap[w.heap.size]? = some (.cells #[.int .u8 k, .int .i64 j1, .int .i64 j2, .int .i64 j3, .int .i64 j4] 26) by rw [← hu]; exact heap_alloc_last _ _)
  by_cases k1 : k = 1
  · subst k1
    have HU := hide hu
    clear hu
    have N0 := ((Below.refl u.heap.size u).block _ hzu).trans M0.out
    have c0 : u.cell? ⟨w.heap.size, 0, none⟩ = some (.int .u8 1) := cell_of_row _ _ 0 _ _ _ N0
    have c1 : u.cell? ⟨w.heap.size, 1, none⟩ = some (.int .i64 j1) := cell_of_row _ _ 1 _ _ _ N0
    have c2 : u.cell? ⟨w.heap.size, 2, none⟩ = some (.int .i64 j2) := cell_of_row _ _ 2 _ _ _ N0
    have c3 : u.cell? ⟨w.heap.size, 3, none⟩ = some (.int .i64 j3) := cell_of_row _ _ 3 _ _ _ N0
    have c4 : u.cell? ⟨w.heap.size, 4, none⟩ = some (.int .i64 j4) := cell_of_row _ _ 4 _ _ _ N0
    clear N0
    go_enter Try.func14, Try.ntmps14
    go_wp2_with fail
    rw [HU.out]
    refine (shares_any _ 1 j1 j2 j3 j4).mono ?_
    rintro e w1 ⟨rfl, hb⟩
    have HB := hide hb
    clear c0 c1 c2 c3 c4
    have N0 := (hb.block _ hzu).trans M0.out
    have c0 : w1.cell? ⟨w.heap.size, 0, none⟩ = some (.int .u8 1) := cell_of_row _ _ 0 _ _ _ N0
    have c1 : w1.cell? ⟨w.heap.size, 1, none⟩ = some (.int .i64 j1) := cell_of_row _ _ 1 _ _ _ N0
    have c2 : w1.cell? ⟨w.heap.size, 2, none⟩ = some (.int .i64 j2) := cell_of_row _ _ 2 _ _ _ N0
    have c3 : w1.cell? ⟨w.heap.size, 3, none⟩ = some (.int .i64 j3) := cell_of_row _ _ 3 _ _ _ N0
    have c4 : w1.cell? ⟨w.heap.size, 4, none⟩ = some (.int .i64 j4) := cell_of_row _ _ 4 _ _ _ N0
    clear N0
    clear hb
    go_wp2
    all_goals
      go_ret
      refine ⟨?_, hbu.out.trans (HB.out.mono (by omega))⟩
      first | (refine ret_b ?_; simp_all [doneF]; done) | (refine ret_b ?_; simp [doneF]; omega) | (simp_all [doneF]; done) | (simp [doneF]; omega)
  by_cases k2 : k = 2
  · subst k2
    have HU := hide hu
    clear hu
    have N0 := ((Below.refl u.heap.size u).block _ hzu).trans M0.out
    have c0 : u.cell? ⟨w.heap.size, 0, none⟩ = some (.int .u8 2) := cell_of_row _ _ 0 _ _ _ N0
    have c1 : u.cell? ⟨w.heap.size, 1, none⟩ = some (.int .i64 j1) := cell_of_row _ _ 1 _ _ _ N0
    have c2 : u.cell? ⟨w.heap.size, 2, none⟩ = some (.int .i64 j2) := cell_of_row _ _ 2 _ _ _ N0
    have c3 : u.cell? ⟨w.heap.size, 3, none⟩ = some (.int .i64 j3) := cell_of_row _ _ 3 _ _ _ N0
    have c4 : u.cell? ⟨w.heap.size, 4, none⟩ = some (.int .i64 j4) := cell_of_row _ _ 4 _ _ _ N0
    clear N0
    go_enter Try.func14, Try.ntmps14
    go_wp2_with fail
    rw [HU.out]
    refine (shares_any _ 2 j1 j2 j3 j4).mono ?_
    rintro e w1 ⟨rfl, hb⟩
    have HB := hide hb
    clear c0 c1 c2 c3 c4
    have N0 := (hb.block _ hzu).trans M0.out
    have c0 : w1.cell? ⟨w.heap.size, 0, none⟩ = some (.int .u8 2) := cell_of_row _ _ 0 _ _ _ N0
    have c1 : w1.cell? ⟨w.heap.size, 1, none⟩ = some (.int .i64 j1) := cell_of_row _ _ 1 _ _ _ N0
    have c2 : w1.cell? ⟨w.heap.size, 2, none⟩ = some (.int .i64 j2) := cell_of_row _ _ 2 _ _ _ N0
    have c3 : w1.cell? ⟨w.heap.size, 3, none⟩ = some (.int .i64 j3) := cell_of_row _ _ 3 _ _ _ N0
    have c4 : w1.cell? ⟨w.heap.size, 4, none⟩ = some (.int .i64 j4) := cell_of_row _ _ 4 _ _ _ N0
    clear N0
    clear hb
    go_wp2
    all_goals
      go_ret
      refine ⟨?_, hbu.out.trans (HB.out.mono (by omega))⟩
      first | (refine ret_b ?_; simp_all [doneF]; done) | (refine ret_b ?_; simp [doneF]; omega) | (simp_all [doneF]; done) | (simp [doneF]; omega)
  by_cases k3 : k = 3
  · subst k3
    have HU := hide hu
    clear hu
    have N0 := ((Below.refl u.heap.size u).block _ hzu).trans M0.out
    have c0 : u.cell? ⟨w.heap.size, 0, none⟩ = some (.int .u8 3) := cell_of_row _ _ 0 _ _ _ N0
    have c1 : u.cell? ⟨w.heap.size, 1, none⟩ = some (.int .i64 j1) := cell_of_row _ _ 1 _ _ _ N0
    have c2 : u.cell? ⟨w.heap.size, 2, none⟩ = some (.int .i64 j2) := cell_of_row _ _ 2 _ _ _ N0
    have c3 : u.cell? ⟨w.heap.size, 3, none⟩ = some (.int .i64 j3) := cell_of_row _ _ 3 _ _ _ N0
    have c4 : u.cell? ⟨w.heap.size, 4, none⟩ = some (.int .i64 j4) := cell_of_row _ _ 4 _ _ _ N0
    clear N0
    go_enter Try.func14, Try.ntmps14
    go_wp2_with fail
    rw [HU.out]
    refine (shares_any _ 3 j1 j2 j3 j4).mono ?_
    rintro e w1 ⟨rfl, hb⟩
    have HB := hide hb
    clear c0 c1 c2 c3 c4
    have N0 := (hb.block _ hzu).trans M0.out
    have c0 : w1.cell? ⟨w.heap.size, 0, none⟩ = some (.int .u8 3) := cell_of_row _ _ 0 _ _ _ N0
    have c1 : w1.cell? ⟨w.heap.size, 1, none⟩ = some (.int .i64 j1) := cell_of_row _ _ 1 _ _ _ N0
    have c2 : w1.cell? ⟨w.heap.size, 2, none⟩ = some (.int .i64 j2) := cell_of_row _ _ 2 _ _ _ N0
    have c3 : w1.cell? ⟨w.heap.size, 3, none⟩ = some (.int .i64 j3) := cell_of_row _ _ 3 _ _ _ N0
    have c4 : w1.cell? ⟨w.heap.size, 4, none⟩ = some (.int .i64 j4) := cell_of_row _ _ 4 _ _ _ N0
    clear N0
    clear hb
    go_wp2
    all_goals
      go_ret
      refine ⟨?_, hbu.out.trans (HB.out.mono (by omega))⟩
      first | (refine ret_b ?_; simp_all [doneF]; done) | (refine ret_b ?_; simp [doneF]; omega) | (simp_all [doneF]; done) | (simp [doneF]; omega)
  obtain ⟨hk1, hk2, hk3⟩ : decide (k = 1) = false ∧ decide (k = 2) = false ∧ decide (k = 3) = false := by simp [k1, k2, k3]
  have HU := hide hu
  clear hu
  have N0 := ((Below.refl u.heap.size u).block _ hzu).trans M0.out
  have c0 : u.cell? ⟨w.heap.size, 0, none⟩ = some (.int .u8 k) := cell_of_row _ _ 0 _ _ _ N0
  have c1 : u.cell? ⟨w.heap.size, 1, none⟩ = some (.int .i64 j1) := cell_of_row _ _ 1 _ _ _ N0
  have c2 : u.cell? ⟨w.heap.size, 2, none⟩ = some (.int .i64 j2) := cell_of_row _ _ 2 _ _ _ N0
  have c3 : u.cell? ⟨w.heap.size, 3, none⟩ = some (.int .i64 j3) := cell_of_row _ _ 3 _ _ _ N0
  have c4 : u.cell? ⟨w.heap.size, 4, none⟩ = some (.int .i64 j4) := cell_of_row _ _ 4 _ _ _ N0
  clear N0
  go_enter Try.func14, Try.ntmps14
  go_wp2_with fail
  rw [HU.out]
  refine (shares_any _ k j1 j2 j3 j4).mono ?_
  rintro e w1 ⟨rfl, hb⟩
  have HB := hide hb
  clear c0 c1 c2 c3 c4
  have N0 := (hb.block _ hzu).trans M0.out
  have c0 : w1.cell? ⟨w.heap.size, 0, none⟩ = some (.int .u8 k) := cell_of_row _ _ 0 _ _ _ N0
  have c1 : w1.cell? ⟨w.heap.size, 1, none⟩ = some (.int .i64 j1) := cell_of_row _ _ 1 _ _ _ N0
  have c2 : w1.cell? ⟨w.heap.size, 2, none⟩ = some (.int .i64 j2) := cell_of_row _ _ 2 _ _ _ N0
  have c3 : w1.cell? ⟨w.heap.size, 3, none⟩ = some (.int .i64 j3) := cell_of_row _ _ 3 _ _ _ N0
  have c4 : w1.cell? ⟨w.heap.size, 4, none⟩ = some (.int .i64 j4) := cell_of_row _ _ 4 _ _ _ N0
  clear N0
  clear hb
  rw [hk1, hk2, hk3]
  go_wp2
  all_goals
    go_ret
    refine ⟨?_, hbu.out.trans (HB.out.mono (by omega))⟩
    first | (refine ret_b ?_; simp_all [doneF]; done) | (refine ret_b ?_; simp [doneF]; omega) | (simp_all [doneF]; done) | (simp [doneF]; omega)
set_option maxRecDepth 100000 in
set_option maxHeartbeats 4000000 in
theorem rdone_any (w : World) (k j1 j2 j3 j4 st mo : Int) : Calls Try.prog 15 #[.agg #[.int .u8 k, .int .i64 j1, .int .i64 j2, .int .i64 j3, .int .i64 j4], .int .i64 st, .int .i64 mo] w fun e w' => e = .returned (.bool (doneF k j1 j4 st mo)) ∧ Below w.heap.size w w' := by
  obtain ⟨u, hu⟩ : ∃ u, w.alloc (.cells #[.int .u8 k, .int .i64 j1, .int .i64 j2, .int .i64 j3, .int .i64 j4] 26) = u := ⟨_, rfl⟩
  have hzu : w.heap.size < u.heap.size := by rw [← hu]; simp
  have hbu := hide (show Below w.heap.size w u by rw [← hu]; exact (Below.refl _ _).alloc (Nat.le_refl _) _)
  have M0 := hide (show u.heap[w.heap.size]? = some (.cells #[.int .u8 k, .int .i64 j1, .int .i64 j2, .int .i64 j3, .int .i64 j4] 26) by rw [← hu]; exact heap_alloc_last _ _)
  by_cases k1 : k = 1
  · subst k1
    have HU := hide hu
    clear hu
    have N0 := ((Below.refl u.heap.size u).block _ hzu).trans M0.out
    have c0 : u.cell? ⟨w.heap.size, 0, none⟩ = some (.int .u8 1) := cell_of_row _ _ 0 _ _ _ N0
    have c1 : u.cell? ⟨w.heap.size, 1, none⟩ = some (.int .i64 j1) := cell_of_row _ _ 1 _ _ _ N0
    have c2 : u.cell? ⟨w.heap.size, 2, none⟩ = some (.int .i64 j2) := cell_of_row _ _ 2 _ _ _ N0
    have c3 : u.cell? ⟨w.heap.size, 3, none⟩ = some (.int .i64 j3) := cell_of_row _ _ 3 _ _ _ N0
    have c4 : u.cell? ⟨w.heap.size, 4, none⟩ = some (.int .i64 j4) := cell_of_row _ _ 4 _ _ _ N0
    clear N0
    go_enter Try.func15, Try.ntmps15
    go_upto_region 1 with fail
    rw [HU.out]
    go_wp2
    all_goals
      go_ret
      refine ⟨?_, hbu.out.trans (Below.refl _ _)⟩
      first | (refine ret_b ?_; simp_all [doneF]; done) | (refine ret_b ?_; simp [doneF]; omega) | (simp_all [doneF]; done) | (simp [doneF]; omega)
  by_cases k2 : k = 2
  · subst k2
    have HU := hide hu
    clear hu
    have N0 := ((Below.refl u.heap.size u).block _ hzu).trans M0.out
    have c0 : u.cell? ⟨w.heap.size, 0, none⟩ = some (.int .u8 2) := cell_of_row _ _ 0 _ _ _ N0
    have c1 : u.cell? ⟨w.heap.size, 1, none⟩ = some (.int .i64 j1) := cell_of_row _ _ 1 _ _ _ N0
    have c2 : u.cell? ⟨w.heap.size, 2, none⟩ = some (.int .i64 j2) := cell_of_row _ _ 2 _ _ _ N0
    have c3 : u.cell? ⟨w.heap.size, 3, none⟩ = some (.int .i64 j3) := cell_of_row _ _ 3 _ _ _ N0
    have c4 : u.cell? ⟨w.heap.size, 4, none⟩ = some (.int .i64 j4) := cell_of_row _ _ 4 _ _ _ N0
    clear N0
    go_enter Try.func15, Try.ntmps15
    go_upto_region 1 with fail
    rw [HU.out]
    go_wp2
    all_goals
      go_ret
      refine ⟨?_, hbu.out.trans (Below.refl _ _)⟩
      first | (refine ret_b ?_; simp_all [doneF]; done) | (refine ret_b ?_; simp [doneF]; omega) | (simp_all [doneF]; done) | (simp [doneF]; omega)
  by_cases k3 : k = 3
  · subst k3
    have HU := hide hu
    clear hu
    have N0 := ((Below.refl u.heap.size u).block _ hzu).trans M0.out
    have c0 : u.cell? ⟨w.heap.size, 0, none⟩ = some (.int .u8 3) := cell_of_row _ _ 0 _ _ _ N0
    have c1 : u.cell? ⟨w.heap.size, 1, none⟩ = some (.int .i64 j1) := cell_of_row _ _ 1 _ _ _ N0
    have c2 : u.cell? ⟨w.heap.size, 2, none⟩ = some (.int .i64 j2) := cell_of_row _ _ 2 _ _ _ N0
    have c3 : u.cell? ⟨w.heap.size, 3, none⟩ = some (.int .i64 j3) := cell_of_row _ _ 3 _ _ _ N0
    have c4 : u.cell? ⟨w.heap.size, 4, none⟩ = some (.int .i64 j4) := cell_of_row _ _ 4 _ _ _ N0
    clear N0
    go_enter Try.func15, Try.ntmps15
    go_upto_region 1 with fail
    rw [HU.out]
    go_wp2
    all_goals
      go_ret
      refine ⟨?_, hbu.out.trans (Below.refl _ _)⟩
      first | (refine ret_b ?_; simp_all [doneF]; done) | (refine ret_b ?_; simp [doneF]; omega) | (simp_all [doneF]; done) | (simp [doneF]; omega)
  obtain ⟨hk1, hk2, hk3⟩ : decide (k = 1) = false ∧ decide (k = 2) = false ∧ decide (k = 3) = false := by simp [k1, k2, k3]
  have HU := hide hu
  clear hu
  have N0 := ((Below.refl u.heap.size u).block _ hzu).trans M0.out
  have c0 : u.cell? ⟨w.heap.size, 0, none⟩ = some (.int .u8 k) := cell_of_row _ _ 0 _ _ _ N0
  have c1 : u.cell? ⟨w.heap.size, 1, none⟩ = some (.int .i64 j1) := cell_of_row _ _ 1 _ _ _ N0
  have c2 : u.cell? ⟨w.heap.size, 2, none⟩ = some (.int .i64 j2) := cell_of_row _ _ 2 _ _ _ N0
  have c3 : u.cell? ⟨w.heap.size, 3, none⟩ = some (.int .i64 j3) := cell_of_row _ _ 3 _ _ _ N0
  have c4 : u.cell? ⟨w.heap.size, 4, none⟩ = some (.int .i64 j4) := cell_of_row _ _ 4 _ _ _ N0
  clear N0
  go_enter Try.func15, Try.ntmps15
  go_upto_region 1 with fail
  rw [HU.out]
  go_wp2
  all_goals
    go_ret
    refine ⟨?_, hbu.out.trans (Below.refl _ _)⟩
    first | (refine ret_b ?_; simp_all [doneF]; done) | (refine ret_b ?_; simp [doneF]; omega) | (simp_all [doneF]; done) | (simp [doneF]; omega)
end Go.Proofs.Ytihlhkbdgbkafaa

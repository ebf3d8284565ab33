/- Done of jobs: algos and the document. (printed by gen/asv.py) Compute of Paths. (printed by gen/asw.py) -/
import Derived.Test.YtgbahnlgblahpaaGreatAst
namespace Go.Proofs.YtgbahnlgblahpaaGreat
open Go.RowKit
set_option linter.unusedVariables false
set_option linter.unusedSimpArgs false
set_option maxRecDepth 100000 in
set_option maxHeartbeats 4000000 in
theorem done_any (w : World) (k j1 j2 j3 j4 st mo : Int) : Calls Tryz.prog 29 #[.agg #[.int .u8 k, .int .i64 j1, .int .i64 j2, .int .i64 j3, .int .i64 j4], .int .i64 st, .int .i64 mo] w fun e w' => e = .returned (.bool (doneF k j1 j4 st mo)) ∧ Below w.heap.size w w' := by
  obtain ⟨u, hu⟩ : ∃ u, w.alloc (.cells #[.int .u8 k, .int .i64 j1, .int .i64 j2, .int .i64 j3, .int .i64 j4] 26) = u := ⟨_, rfl⟩
  have hzu : w.heap.size < u.heap.size := by rw [← hu]; simp
  have hbu := hide (show Below w.heap.size w u by rw [← hu]; exact (Below.refl _ _).alloc (Nat.le_refl _) _)
  have M0 := hide (show u.heap[w.heap.size]? = some (.cells #[.int .u8 k, .int .i64 j1, .int .i64 j2, .int .i64 j3, .int .i64 j4] 26) by rw [← hu]; exact heap_alloc_last _ _)
  by_cases k1 : k = 1
  · subst k1
    have HU := hide hu
    clear hu
    have N0 := ((Below.refl u.heap.size u).block _ hzu).trans M0.out
    have c0 : u.cell? ⟨w.heap.size, 0, none⟩ = some (.int .u8 1) := cell_of_row _ _ 0 _ _ _ N0
    have c1 : u.cell? ⟨w.heap.size, 1, none⟩ = some (.int .i64 j1) := cell_of_row _ _ 1 _ _ _ N0
    have c2 : u.cell? ⟨w.heap.size, 2, none⟩ = some (.int .i64 j2) := cell_of_row _ _ 2 _ _ _ N0
    have c3 : u.cell? ⟨w.heap.size, 3, none⟩ = some (.int .i64 j3) := cell_of_row _ _ 3 _ _ _ N0
    have c4 : u.cell? ⟨w.heap.size, 4, none⟩ = some (.int .i64 j4) := cell_of_row _ _ 4 _ _ _ N0
    clear N0
    go_enter Tryz.func29, Tryz.ntmps29
    go_wp2_with fail
    rw [HU.out]
    refine (shares_any _ 1 j1 j2 j3 j4).mono ?_
    rintro e w1 ⟨rfl, hb⟩
    have HB := hide hb
    clear c0 c1 c2 c3 c4
    have N0 := (hb.block _ hzu).trans M0.out
    have c0 : w1.cell? ⟨w.heap.size, 0, none⟩ = some (.int .u8 1) := cell_of_row _ _ 0 _ _ _ N0
    have c1 : w1.cell? ⟨w.heap.size, 1, none⟩ = some (.int .i64 j1) := cell_of_row _ _ 1 _ _ _ N0
    have c2 : w1.cell? ⟨w.heap.size, 2, none⟩ = some (.int .i64 j2) := cell_of_row _ _ 2 _ _ _ N0
    have c3 : w1.cell? ⟨w.heap.size, 3, none⟩ = some (.int .i64 j3) := cell_of_row _ _ 3 _ _ _ N0
    have c4 : w1.cell? ⟨w.heap.size, 4, none⟩ = some (.int .i64 j4) := cell_of_row _ _ 4 _ _ _ N0
    clear N0
    clear hb
    go_wp2
    all_goals
      go_ret
      refine ⟨?_, hbu.out.trans (HB.out.mono (by omega))⟩
      first | (refine ret_b ?_; simp_all [doneF]; done) | (refine ret_b ?_; simp [doneF]; omega) | (simp_all [doneF]; done) | (simp [doneF]; omega)
  by_cases k2 : k = 2
  · subst k2
    have HU := hide hu
    clear hu
    have N0 := ((Below.refl u.heap.size u).block _ hzu).trans M0.out
    have c0 : u.cell? ⟨w.heap.size, 0, none⟩ = some (.int .u8 2) := cell_of_row _ _ 0 _ _ _ N0
    have c1 : u.cell? ⟨w.heap.size, 1, none⟩ = some (.int .i64 j1) := cell_of_row _ _ 1 _ _ _ N0
    have c2 : u.cell? ⟨w.heap.size, 2, none⟩ = some (.int .i64 j2) := cell_of_row _ _ 2 _ _ _ N0
    have c3 : u.cell? ⟨w.heap.size, 3, none⟩ = some (.int .i64 j3) := cell_of_row _ _ 3 _ _ _ N0
    have c4 : u.cell? ⟨w.heap.size, 4, none⟩ = some (.int .i64 j4) := cell_of_row _ _ 4 _ _ _ N0
    clear N0
    go_enter Tryz.func29, Tryz.ntmps29
    go_wp2_with fail
    rw [HU.out]
    refine (shares_any _ 2 j1 j2 j3 j4).mono ?_
    rintro e w1 ⟨rfl, hb⟩
    have HB := hide hb
    clear c0 c1 c2 c3 c4
    have N0 := (hb.block _ hzu).trans M0.out
    have c0 : w1.cell? ⟨w.heap.size, 0, none⟩ = some (.int .u8 2) := cell_of_row _ _ 0 _ _ _ N0
    have c1 : w1.cell? ⟨w.heap.size, 1, none⟩ = some (.int .i64 j1) := cell_of_row _ _ 1 _ _ _ N0
    have c2 : w1.cell? ⟨w.heap.size, 2, none⟩ = some (.int .i64 j2) := cell_of_row _ _ 2 _ _ _ N0
    have c3 : w1.cell? ⟨w.heap.size, 3, none⟩ = some (.int .i64 j3) := cell_of_row _ _ 3 _ _ _ N0
    have c4 : w1.cell? ⟨w.heap.size, 4, none⟩ = some (.int .i64 j4) := cell_of_row _ _ 4 _ _ _ N0
    clear N0
    clear hb
    go_wp2
    all_goals
      go_ret
      refine ⟨?_, hbu.out.trans (HB.out.mono (by omega))⟩
      first | (refine ret_b ?_; simp_all [doneF]; done) | (refine ret_b ?_; simp [doneF]; omega) | (simp_all [doneF]; done) | (simp [doneF]; omega)
  by_cases k3 : k = 3
  · subst k3
    have HU := hide hu
    clear hu
    have N0 := ((Below.refl u.heap.size u).block _ hzu).trans M0.out
    have c0 : u.cell? ⟨w.heap.size, 0, none⟩ = some (.int .u8 3) := cell_of_row _ _ 0 _ _ _ N0
    have c1 : u.cell? ⟨w.heap.size, 1, none⟩ = some (.int .i64 j1) := cell_of_row _ _ 1 _ _ _ N0
    have c2 : u.cell? ⟨w.heap.size, 2, none⟩ = some (.int .i64 j2) := cell_of_row _ _ 2 _ _ _ N0
    have c3 : u.cell? ⟨w.heap.size, 3, none⟩ = some (.int .i64 j3) := cell_of_row _ _ 3 _ _ _ N0
    have c4 : u.cell? ⟨w.heap.size, 4, none⟩ = some (.int .i64 j4) := cell_of_row _ _ 4 _ _ _ N0
    clear N0
    go_enter Tryz.func29, Tryz.ntmps29
    go_wp2_with fail
    rw [HU.out]
    refine (shares_any _ 3 j1 j2 j3 j4).mono ?_
    rintro e w1 ⟨rfl, hb⟩
    have HB := hide hb
    clear c0 c1 c2 c3 c4
    have N0 := (hb.block _ hzu).trans M0.out
    have c0 : w1.cell? ⟨w.heap.size, 0, none⟩ = some (.int .u8 3) := cell_of_row _ _ 0 _ _ _ N0
    have c1 : w1.cell? ⟨w.heap.size, 1, none⟩ = some (.int .i64 j1) := cell_of_row _ _ 1 _ _ _ N0
    have c2 : w1.cell? ⟨w.heap.size, 2, none⟩ = some (.int .i64 j2) := cell_of_row _ _ 2 _ _ _ N0
    have c3 : w1.cell? ⟨w.heap.size, 3, none⟩ = some (.int .i64 j3) := cell_of_row _ _ 3 _ _ _ N0
    have c4 : w1.cell? ⟨w.heap.size, 4, none⟩ = some (.int .i64 j4) := cell_of_row _ _ 4 _ _ _ N0
    clear N0
    clear hb
    go_wp2
    all_goals
      go_ret
      refine ⟨?_, hbu.out.trans (HB.out.mono (by omega))⟩
      first | (refine ret_b ?_; simp_all [doneF]; done) | (refine ret_b ?_; simp [doneF]; omega) | (simp_all [doneF]; done) | (simp [doneF]; omega)
  obtain ⟨hk1, hk2, hk3⟩ : decide (k = 1) = false ∧ decide (k = 2) = false ∧ decide (k = 3) = false := by simp [k1, k2, k3]
  have HU := hide hu
  clear hu
  have N0 := ((Below.refl u.heap.size u).block _ hzu).trans M0.out
  have c0 : u.cell? ⟨w.heap.size, 0, none⟩ = some (.int .u8 k) := cell_of_row _ _ 0 _ _ _ N0
  have c1 : u.cell? ⟨w.heap.size, 1, none⟩ = some (.int .i64 j1) := cell_of_row _ _ 1 _ _ _ N0
  have c2 : u.cell? ⟨w.heap.size, 2, none⟩ = some (.int .i64 j2) := cell_of_row _ _ 2 _ _ _ N0
  have c3 : u.cell? ⟨w.heap.size, 3, none⟩ = some (.int .i64 j3) := cell_of_row _ _ 3 _ _ _ N0
  have c4 : u.cell? ⟨w.heap.size, 4, none⟩ = some (.int .i64 j4) := cell_of_row _ _ 4 _ _ _ N0
  clear N0
  go_enter Tryz.func29, Tryz.ntmps29
  go_wp2_with fail
  rw [HU.out]
  refine (shares_any _ k j1 j2 j3 j4).mono ?_
  rintro e w1 ⟨rfl, hb⟩
  have HB := hide hb
  clear c0 c1 c2 c3 c4
  have N0 := (hb.block _ hzu).trans M0.out
  have c0 : w1.cell? ⟨w.heap.size, 0, none⟩ = some (.int .u8 k) := cell_of_row _ _ 0 _ _ _ N0
  have c1 : w1.cell? ⟨w.heap.size, 1, none⟩ = some (.int .i64 j1) := cell_of_row _ _ 1 _ _ _ N0
  have c2 : w1.cell? ⟨w.heap.size, 2, none⟩ = some (.int .i64 j2) := cell_of_row _ _ 2 _ _ _ N0
  have c3 : w1.cell? ⟨w.heap.size, 3, none⟩ = some (.int .i64 j3) := cell_of_row _ _ 3 _ _ _ N0
  have c4 : w1.cell? ⟨w.heap.size, 4, none⟩ = some (.int .i64 j4) := cell_of_row _ _ 4 _ _ _ N0
  clear N0
  clear hb
  rw [hk1, hk2, hk3]
  go_wp2
  all_goals
    go_ret
    refine ⟨?_, hbu.out.trans (HB.out.mono (by omega))⟩
    first | (refine ret_b ?_; simp_all [doneF]; done) | (refine ret_b ?_; simp [doneF]; omega) | (simp_all [doneF]; done) | (simp [doneF]; omega)
set_option maxRecDepth 100000 in
set_option maxHeartbeats 4000000 in
theorem rdone_any (w : World) (k j1 j2 j3 j4 st mo : Int) : Calls Tryz.prog 75 #[.agg #[.int .u8 k, .int .i64 j1, .int .i64 j2, .int .i64 j3, .int .i64 j4], .int .i64 st, .int .i64 mo] w fun e w' => e = .returned (.bool (doneF k j1 j4 st mo)) ∧ Below w.heap.size w w' := by
  obtain ⟨u, hu⟩ : ∃ u, w.alloc (.cells #[.int .u8 k, .int .i64 j1, .int .i64 j2, .int .i64 j3, .int .i64 j4] 26) = u := ⟨_, rfl⟩
  have hzu : w.heap.size < u.heap.size := by rw [← hu]; simp
  have hbu := hide (show Below w.heap.size w u by rw [← hu]; exact (Below.refl _ _).alloc (Nat.le_refl _) _)
  have M0 := hide (show u.heap[w.heap.size]? = some (.cells #[.int .u8 k, .int .i64 j1, .int .i64 j2, .int .i64 j3, .int .i64 j4] 26) by rw [← hu]; exact heap_alloc_last _ _)
  by_cases k1 : k = 1
  · subst k1
    have HU := hide hu
    clear hu
    have N0 := ((Below.refl u.heap.size u).block _ hzu).trans M0.out
    have c0 : u.cell? ⟨w.heap.size, 0, none⟩ = some (.int .u8 1) := cell_of_row _ _ 0 _ _ _ N0
    have c1 : u.cell? ⟨w.heap.size, 1, none⟩ = some (.int .i64 j1) := cell_of_row _ _ 1 _ _ _ N0
    have c2 : u.cell? ⟨w.heap.size, 2, none⟩ = some (.int .i64 j2) := cell_of_row _ _ 2 _ _ _ N0
    have c3 : u.cell? ⟨w.heap.size, 3, none⟩ = some (.int .i64 j3) := cell_of_row _ _ 3 _ _ _ N0
    have c4 : u.cell? ⟨w.heap.size, 4, none⟩ = some (.int .i64 j4) := cell_of_row _ _ 4 _ _ _ N0
    clear N0
    go_enter Tryz.func75, Tryz.ntmps75
    go_upto_region 1 with fail
    rw [HU.out]
    go_wp2
    all_goals
      go_ret
      refine ⟨?_, hbu.out.trans (Below.refl _ _)⟩
      first | (refine ret_b ?_; simp_all [doneF]; done) | (refine ret_b ?_; simp [doneF]; omega) | (simp_all [doneF]; done) | (simp [doneF]; omega)
  by_cases k2 : k = 2
  · subst k2
    have HU := hide hu
    clear hu
    have N0 := ((Below.refl u.heap.size u).block _ hzu).trans M0.out
    have c0 : u.cell? ⟨w.heap.size, 0, none⟩ = some (.int .u8 2) := cell_of_row _ _ 0 _ _ _ N0
    have c1 : u.cell? ⟨w.heap.size, 1, none⟩ = some (.int .i64 j1) := cell_of_row _ _ 1 _ _ _ N0
    have c2 : u.cell? ⟨w.heap.size, 2, none⟩ = some (.int .i64 j2) := cell_of_row _ _ 2 _ _ _ N0
    have c3 : u.cell? ⟨w.heap.size, 3, none⟩ = some (.int .i64 j3) := cell_of_row _ _ 3 _ _ _ N0
    have c4 : u.cell? ⟨w.heap.size, 4, none⟩ = some (.int .i64 j4) := cell_of_row _ _ 4 _ _ _ N0
    clear N0
    go_enter Tryz.func75, Tryz.ntmps75
    go_upto_region 1 with fail
    rw [HU.out]
    go_wp2
    all_goals
      go_ret
      refine ⟨?_, hbu.out.trans (Below.refl _ _)⟩
      first | (refine ret_b ?_; simp_all [doneF]; done) | (refine ret_b ?_; simp [doneF]; omega) | (simp_all [doneF]; done) | (simp [doneF]; omega)
  by_cases k3 : k = 3
  · subst k3
    have HU := hide hu
    clear hu
    have N0 := ((Below.refl u.heap.size u).block _ hzu).trans M0.out
    have c0 : u.cell? ⟨w.heap.size, 0, none⟩ = some (.int .u8 3) := cell_of_row _ _ 0 _ _ _ N0
    have c1 : u.cell? ⟨w.heap.size, 1, none⟩ = some (.int .i64 j1) := cell_of_row _ _ 1 _ _ _ N0
    have c2 : u.cell? ⟨w.heap.size, 2, none⟩ = some (.int .i64 j2) := cell_of_row _ _ 2 _ _ _ N0
    have c3 : u.cell? ⟨w.heap.size, 3, none⟩ = some (.int .i64 j3) := cell_of_row _ _ 3 _ _ _ N0
    have c4 : u.cell? ⟨w.heap.size, 4, none⟩ = some (.int .i64 j4) := cell_of_row _ _ 4 _ _ _ N0
    clear N0
    go_enter Tryz.func75, Tryz.ntmps75
    go_upto_region 1 with fail
    rw [HU.out]
    go_wp2
    all_goals
      go_ret
      refine ⟨?_, hbu.out.trans (Below.refl _ _)⟩
      first | (refine ret_b ?_; simp_all [doneF]; done) | (refine ret_b ?_; simp [doneF]; omega) | (simp_all [doneF]; done) | (simp [doneF]; omega)
  obtain ⟨hk1, hk2, hk3⟩ : decide (k = 1) = false ∧ decide (k = 2) = false ∧ decide (k = 3) = false := by simp [k1, k2, k3]
  have HU := hide hu
  clear hu
  have N0 := ((Below.refl u.heap.size u).block _ hzu).trans M0.out
  have c0 : u.cell? ⟨w.heap.size, 0, none⟩ = some (.int .u8 k) := cell_of_row _ _ 0 _ _ _ N0
  have c1 : u.cell? ⟨w.heap.size, 1, none⟩ = some (.int .i64 j1) := cell_of_row _ _ 1 _ _ _ N0
  have c2 : u.cell? ⟨w.heap.size, 2, none⟩ = some (.int .i64 j2) := cell_of_row _ _ 2 _ _ _ N0
  have c3 : u.cell? ⟨w.heap.size, 3, none⟩ = some (.int .i64 j3) := cell_of_row _ _ 3 _ _ _ N0
  have c4 : u.cell? ⟨w.heap.size, 4, none⟩ = some (.int .i64 j4) := cell_of_row _ _ 4 _ _ _ N0
  clear N0
  go_enter Tryz.func75, Tryz.ntmps75
  go_upto_region 1 with fail
  rw [HU.out]
  go_wp2
  all_goals
    go_ret
    refine ⟨?_, hbu.out.trans (Below.refl _ _)⟩
    first | (refine ret_b ?_; simp_all [doneF]; done) | (refine ret_b ?_; simp [doneF]; omega) | (simp_all [doneF]; done) | (simp [doneF]; omega)
end Go.Proofs.YtgbahnlgblahpaaGreat
namespace Go.Proofs.YtgbahnlgblahpaaGreat
open Go.RowKit
set_option linter.unusedVariables false
set_option linter.unusedSimpArgs false
theorem taker_ways (w : World) : (Instr.typeAssert (.iface 87 (.agg #[])) 57 142 false).run Tryz.prog w = .ok (.iface 87 (.agg #[])) w := by kernel_rfl
set_option maxRecDepth 100000 in
set_option maxHeartbeats 4000000 in
theorem wytake_any (w : World) (v : Int) (has : Bool) (x : Int) : Calls Tryz.prog 185 #[.agg #[], .int .i64 v, .agg #[.bool has, .int .i64 x]] w fun e w' => e = .returned (.tuple #[.int .i64 (takeOf v has x).1, .bool (takeOf v has x).2]) ∧ Below w.heap.size w w' := by
  have hbu := hide (show Below w.heap.size w ((w.alloc (.cells #[] 87)).alloc (.cells #[.bool has, .int .i64 x] 121)) from ((Below.refl _ _).alloc (Nat.le_refl _) _).alloc (by simp) _)
  go_enter Tryz.func185, Tryz.ntmps185
  go_wp2_with fail
  refine (take_any _ v has x).mono ?_
  rintro e w1 ⟨rfl, hb⟩
  have HB := hide hb
  clear hb
  go_wp2
  exact bodyPost_ret (by simp [results, Tryz.results185, go_sem]; try rfl) rfl ⟨rfl, hbu.out.trans (HB.out.mono (by simp; omega))⟩
set_option maxRecDepth 100000 in
set_option maxHeartbeats 4000000 in
theorem acomp3_any (w : World) (j1 j2 j3 j4 V v : Int) (has : Bool) (x su : Int) : Calls Tryz.prog 70 #[.agg #[.int .u8 3, .int .i64 j1, .int .i64 j2, .int .i64 j3, .int .i64 j4], .int .i64 V, .int .i64 v, .agg #[.bool has, .int .i64 x], .int .i64 su] w fun e w' => e = .returned (.tuple #[.int .i64 (takeOf v has x).1, .bool (takeOf v has x).2]) ∧ Below w.heap.size w w' := by
  have ta := taker_ways
  have ts := sharer_ways
  obtain ⟨u, hu⟩ : ∃ u, (w.alloc (.cells #[.int .u8 3, .int .i64 j1, .int .i64 j2, .int .i64 j3, .int .i64 j4] 26)).alloc (.cells #[.bool has, .int .i64 x] 121) = u := ⟨_, rfl⟩
  have hzu : w.heap.size + 1 < u.heap.size := by rw [← hu]; simp
  have hbu := hide (show Below w.heap.size w u by rw [← hu]; exact ((Below.refl _ _).alloc (Nat.le_refl _) _).alloc (by simp) _)
  have M1 := hide (show u.heap[w.heap.size + 1]? = some (.cells #[.bool has, .int .i64 x] 121) by rw [← hu]; have h := heap_alloc_last (w.alloc (.cells #[.int .u8 3, .int .i64 j1, .int .i64 j2, .int .i64 j3, .int .i64 j4] 26)) (.cells #[.bool has, .int .i64 x] 121); simpa using h)
  have M0 : u.heap[w.heap.size]? = some (.cells #[.int .u8 3, .int .i64 j1, .int .i64 j2, .int .i64 j3, .int .i64 j4] 26) := by rw [← hu]; exact heap_alloc_keep (heap_alloc_last _ _)
  have c0 : u.cell? ⟨w.heap.size, 0, none⟩ = some (.int .u8 3) := cell_of_row _ _ 0 _ _ _ M0
  have c1 : u.cell? ⟨w.heap.size, 1, none⟩ = some (.int .i64 j1) := cell_of_row _ _ 1 _ _ _ M0
  have c2 : u.cell? ⟨w.heap.size, 2, none⟩ = some (.int .i64 j2) := cell_of_row _ _ 2 _ _ _ M0
  have c3 : u.cell? ⟨w.heap.size, 3, none⟩ = some (.int .i64 j3) := cell_of_row _ _ 3 _ _ _ M0
  have c4 : u.cell? ⟨w.heap.size, 4, none⟩ = some (.int .i64 j4) := cell_of_row _ _ 4 _ _ _ M0
  clear M0
  have HU := hide hu
  clear hu
  go_enter Tryz.func70, Tryz.ntmps70
  go_wp2_with fail
  rw [HU.out]
  refine (of3 _ j1 j2 j3 j4).mono ?_
  rintro e ws ⟨rfl, hb⟩
  have HB := hide hb
  clear c0 c1 c2 c3 c4
  have N1 := (hb.block _ hzu).trans M1.out
  have x0 : ws.cell? ⟨w.heap.size + 1, 0, none⟩ = some (.bool has) := cell_of_row _ _ 0 _ _ _ N1
  have x1 : ws.cell? ⟨w.heap.size + 1, 1, none⟩ = some (.int .i64 x) := cell_of_row _ _ 1 _ _ _ N1
  clear N1
  have lw : w.heap.size + 1 < ws.heap.size := Nat.lt_of_lt_of_le hzu hb.size
  clear hb
  go_upto_region 8 with fail
  refine wp_region_held_drew (S := Kept ws) (by kernel_rfl) (Kept.drew ws) (fun hS0 => ?_)
  refine take_at (i := 0) (d := 36) (v := ?_) (by simp only [List.getElem?_toArray, List.getElem?_cons_succ, List.getElem?_cons_zero]; rfl) rfl (by kernel_rfl) (by kernel_rfl) (by kernel_rfl) (fun _ _ _ h => h) rfl ?_ (by assumption) ?_
  rotate_left
  focus (intro w hSw; go_simp; (try with_reducible rfl); done)
  try simp only [List.setIfInBounds_toArray, List.set_cons_zero, List.set_cons_succ]
  refine take_at (i := 1) (d := 37) (v := ?_) (by simp only [List.getElem?_toArray, List.getElem?_cons_succ, List.getElem?_cons_zero]; rfl) rfl (by kernel_rfl) (by kernel_rfl) (by kernel_rfl) (fun _ _ _ h => h) rfl ?_ (by assumption) ?_
  rotate_left
  focus (intro w hSw; have hh := ta w; go_simp; (try with_reducible rfl); done)
  try simp only [List.setIfInBounds_toArray, List.set_cons_zero, List.set_cons_succ]
  refine take_at (i := 2) (d := 38) (v := ?_) (by simp only [List.getElem?_toArray, List.getElem?_cons_succ, List.getElem?_cons_zero]; rfl) rfl (by kernel_rfl) (by kernel_rfl) (by kernel_rfl) (fun _ _ _ h => h) rfl ?_ (by assumption) ?_
  rotate_left
  focus (intro w hSw; go_simp; (try with_reducible rfl); done)
  try simp only [List.setIfInBounds_toArray, List.set_cons_zero, List.set_cons_succ]
  refine take_at (i := 3) (d := 39) (v := ?_) (by simp only [List.getElem?_toArray, List.getElem?_cons_succ, List.getElem?_cons_zero]; rfl) rfl (by kernel_rfl) (by kernel_rfl) (by kernel_rfl) (fun _ _ _ h => h) rfl ?_ (by assumption) ?_
  rotate_left
  focus (intro w hSw; go_simp; (try with_reducible rfl); done)
  try simp only [List.setIfInBounds_toArray, List.set_cons_zero, List.set_cons_succ]
  refine call_at (i := 4) (d := 40) (by simp only [List.getElem?_toArray, List.getElem?_cons_succ, List.getElem?_cons_zero]; rfl) rfl (by kernel_rfl) rfl (fun K hK => ?_)
  go_simp
  go_upon
  refine (wytake_any _ v has x).mono ?_
  rintro e z1 ⟨rfl, k1⟩
  have hS1 : Kept ws z1 := hS0.below (by simp) k1
  have K1 := hide (below_dr k1)
  clear k1
  go_wp2_with fail
  refine hK.out _ _ hS1 (fun hSn => ?_)
  clear hK K
  try simp only [List.setIfInBounds_toArray, List.set_cons_zero, List.set_cons_succ]
  refine take_at (i := 5) (d := 41) (v := ?_) (by simp only [List.getElem?_toArray, List.getElem?_cons_succ, List.getElem?_cons_zero]; rfl) rfl (by kernel_rfl) (by kernel_rfl) (by kernel_rfl) (fun _ _ _ h => h) rfl ?_ (by assumption) ?_
  rotate_left
  focus (intro w hSw; go_simp; (try with_reducible rfl); done)
  try simp only [List.setIfInBounds_toArray, List.set_cons_zero, List.set_cons_succ]
  refine take_at (i := 6) (d := 42) (v := ?_) (by simp only [List.getElem?_toArray, List.getElem?_cons_succ, List.getElem?_cons_zero]; rfl) rfl (by kernel_rfl) (by kernel_rfl) (by kernel_rfl) (fun _ _ _ h => h) rfl ?_ (by assumption) ?_
  rotate_left
  focus (intro w hSw; go_simp; (try with_reducible rfl); done)
  try simp only [List.setIfInBounds_toArray, List.set_cons_zero, List.set_cons_succ]
  refine take_at (i := 7) (d := 10) (v := ?_) (by simp only [List.getElem?_toArray, List.getElem?_cons_succ, List.getElem?_cons_zero]; rfl) rfl (by kernel_rfl) (by kernel_rfl) (by kernel_rfl) (fun _ _ _ h => h) rfl ?_ (by assumption) ?_
  rotate_left
  focus (intro w hSw; go_simp; (try with_reducible rfl); done)
  try simp only [List.setIfInBounds_toArray, List.set_cons_zero, List.set_cons_succ]
  refine take_at (i := 8) (d := 11) (v := ?_) (by simp only [List.getElem?_toArray, List.getElem?_cons_succ, List.getElem?_cons_zero]; rfl) rfl (by kernel_rfl) (by kernel_rfl) (by kernel_rfl) (fun _ _ _ h => h) rfl ?_ (by assumption) ?_
  rotate_left
  focus (intro w hSw; go_simp; (try with_reducible rfl); done)
  try simp only [List.setIfInBounds_toArray, List.set_cons_zero, List.set_cons_succ]
  refine wpAnyH_done (by kernel_rfl) ?_ _
  go_wp2
  exact bodyPost_ret (by simp [results, Tryz.results70, go_sem]; try rfl) rfl ⟨rfl, hbu.out.trans ((HB.out.trans (K1.out.mono HB.out.size)).mono (by omega))⟩
end Go.Proofs.YtgbahnlgblahpaaGreat

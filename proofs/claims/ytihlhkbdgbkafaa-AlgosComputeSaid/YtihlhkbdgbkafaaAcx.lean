/- The walk of the statement AlgosCompute. (printed by gen/acw.py) -/
import Derived.Test.YtihlhkbdgbkafaaAwk
import Derived.Test.YtihlhkbdgbkafaaAcp
import Derived.Test.YtihlhkbdgbkafaaOjb
namespace Go.Proofs.Ytihlhkbdgbkafaa
open Go.RowKit
set_option linter.unusedVariables false
set_option linter.unusedSimpArgs false
set_option maxRecDepth 100000 in
set_option maxHeartbeats 16000000 in
theorem algosCompute_go (w : World) (k j1 j2 j3 j4 V v : Int) (has : Bool) (x su : Int) (bV : V ≤ 9223372036854775807) (bx : x ≤ 9223372036854775807) (bs : su ≤ 9223372036854775807) :
    Calls Try.prog 4 #[.agg #[.int .u8 k, .int .i64 j1, .int .i64 j2, .int .i64 j3, .int .i64 j4], .int .i64 V, .int .i64 v, .agg #[.bool has, .int .i64 x], .int .i64 su] w fun e w' => e = .returned (.bool true) ∧ Below w.heap.size w w' := by
  obtain ⟨u, hu⟩ : ∃ u, (w.alloc (.cells #[.int .u8 k, .int .i64 j1, .int .i64 j2, .int .i64 j3, .int .i64 j4] 26)).alloc (.cells #[.bool has, .int .i64 x] 36) = u := ⟨_, rfl⟩
  have hzu : w.heap.size + 1 < u.heap.size := by rw [← hu]; simp
  have hbu := hide (show Below w.heap.size w u by rw [← hu]; exact ((Below.refl _ _).alloc (Nat.le_refl _) _).alloc (by simp) _)
  have M1 := hide (show u.heap[w.heap.size + 1]? = some (.cells #[.bool has, .int .i64 x] 36) by rw [← hu]; have h := heap_alloc_last (w.alloc (.cells #[.int .u8 k, .int .i64 j1, .int .i64 j2, .int .i64 j3, .int .i64 j4] 26)) (.cells #[.bool has, .int .i64 x] 36); simpa using h)
  have M0 := hide (show u.heap[w.heap.size]? = some (.cells #[.int .u8 k, .int .i64 j1, .int .i64 j2, .int .i64 j3, .int .i64 j4] 26) by rw [← hu]; exact heap_alloc_keep (heap_alloc_last _ _))
  have HU := hide hu
  clear hu
  obtain ⟨⟨y1, y2⟩, hy⟩ : ∃ z, compK k V v has x su j3 = z := ⟨_, rfl⟩
  have HY := hide hy
  clear hy
  have N0 := M0.out
  have c0 : u.cell? ⟨w.heap.size, 0, none⟩ = some (.int .u8 k) := cell_of_row _ _ 0 _ _ _ N0
  have c1 : u.cell? ⟨w.heap.size, 1, none⟩ = some (.int .i64 j1) := cell_of_row _ _ 1 _ _ _ N0
  have c2 : u.cell? ⟨w.heap.size, 2, none⟩ = some (.int .i64 j2) := cell_of_row _ _ 2 _ _ _ N0
  have c3 : u.cell? ⟨w.heap.size, 3, none⟩ = some (.int .i64 j3) := cell_of_row _ _ 3 _ _ _ N0
  have c4 : u.cell? ⟨w.heap.size, 4, none⟩ = some (.int .i64 j4) := cell_of_row _ _ 4 _ _ _ N0
  clear N0
  have N1 := M1.out
  have x0 : u.cell? ⟨w.heap.size + 1, 0, none⟩ = some (.bool has) := cell_of_row _ _ 0 _ _ _ N1
  have x1 : u.cell? ⟨w.heap.size + 1, 1, none⟩ = some (.int .i64 x) := cell_of_row _ _ 1 _ _ _ N1
  clear N1
  go_enter Try.func4, Try.ntmps4
  go_upto_region 1 with fail
  rw [HU.out]
  go_wp2_with fail
  have hc := acomp_any u k j1 j2 j3 j4 V v has x su bV bx bs
  rw [HY.out] at hc
  refine hc.mono ?_
  clear hc
  rintro e w1 ⟨rfl, hb⟩
  have B1 := hide hb
  have t1 : u.heap.size ≤ w1.heap.size := hb.size
  clear hb
  clear c0 c1 c2 c3 c4 x0 x1
  have N0 := (B1.out.block _ (by omega)).trans M0.out
  have c0 : w1.cell? ⟨w.heap.size, 0, none⟩ = some (.int .u8 k) := cell_of_row _ _ 0 _ _ _ N0
  have c1 : w1.cell? ⟨w.heap.size, 1, none⟩ = some (.int .i64 j1) := cell_of_row _ _ 1 _ _ _ N0
  have c2 : w1.cell? ⟨w.heap.size, 2, none⟩ = some (.int .i64 j2) := cell_of_row _ _ 2 _ _ _ N0
  have c3 : w1.cell? ⟨w.heap.size, 3, none⟩ = some (.int .i64 j3) := cell_of_row _ _ 3 _ _ _ N0
  have c4 : w1.cell? ⟨w.heap.size, 4, none⟩ = some (.int .i64 j4) := cell_of_row _ _ 4 _ _ _ N0
  clear N0
  have N1 := (B1.out.block _ (by omega)).trans M1.out
  have x0 : w1.cell? ⟨w.heap.size + 1, 0, none⟩ = some (.bool has) := cell_of_row _ _ 0 _ _ _ N1
  have x1 : w1.cell? ⟨w.heap.size + 1, 1, none⟩ = some (.int .i64 x) := cell_of_row _ _ 1 _ _ _ N1
  clear N1
  go_wp2_with fail
  have hc := rcomp_any w1 k j1 j2 j3 j4 V v has x su bV bx bs
  rw [HY.out] at hc
  refine hc.mono ?_
  clear hc
  rintro e w2 ⟨rfl, hb⟩
  have B2 := hide (B1.out.trans (hb.mono t1))
  have t2 : u.heap.size ≤ w2.heap.size := Nat.le_trans t1 hb.size
  clear hb
  clear c0 c1 c2 c3 c4 x0 x1
  go_wp2_with fail
  refine (works_any _).mono ?_
  rintro e w3 ⟨rfl, hb⟩
  have HF := hide (hbu.out.trans ((B2.out.trans (hb.mono t2)).mono (by omega)))
  clear hb
  go_wp2
  go_ret
  exact ⟨rfl, HF.out⟩
theorem algosCompute_walk (w : World) (k j1 j2 j3 j4 : Int) (hk : 0 ≤ k ∧ k ≤ 255) (hj1 : i64B j1) (hj2 : i64B j2) (hj3 : i64B j3) (hj4 : i64B j4) (V : Int) (h1 : -9223372036854775808 ≤ V) (h2 : V ≤ 9223372036854775807) (v : Int) (h3 : -9223372036854775808 ≤ v) (h4 : v ≤ 9223372036854775807)
    (has : Bool) (x : Int) (hx1 : -9223372036854775808 ≤ x) (hx2 : x ≤ 9223372036854775807) (su : Int) (h5 : -9223372036854775808 ≤ su) (h6 : su ≤ 9223372036854775807) :
    Calls Try.prog 4 #[.agg #[.int .u8 k, .int .i64 j1, .int .i64 j2, .int .i64 j3, .int .i64 j4], .int .i64 V, .int .i64 v, .agg #[.bool has, .int .i64 x], .int .i64 su] w fun e w' => e = .returned (.bool true) ∧ Below w.heap.size w w' :=
  algosCompute_go w k j1 j2 j3 j4 V v has x su h2 hx2 h6
end Go.Proofs.Ytihlhkbdgbkafaa

/- The walk of the statement AlgosOrder. (printed by gen/aow.py) -/
import Derived.Test.YtihlhkbdgbkafaaAwk
import Derived.Test.YtihlhkbdgbkafaaAtc
import Derived.Test.YtihlhkbdgbkafaaOjb
namespace Go.Proofs.Ytihlhkbdgbkafaa
open Go.RowKit
set_option linter.unusedVariables false
set_option linter.unusedSimpArgs false
theorem dadd_comm (a b : Int) : dadd a b = dadd b a := by unfold dadd; rw [Int.add_comm]
theorem dist_nn {a : Int} (h : 0 ≤ a) : dist a = min a 4611686018427387904 := by unfold dist; (repeat' split) <;> omega
theorem dadd_nn {a b : Int} (h1 : 0 ≤ a) (h2 : 0 ≤ b) : dadd a b = min (a + b) 4611686018427387904 := by unfold dadd; rw [dist_nn h1, dist_nn h2]; split <;> omega
theorem dadd_assoc {a b c : Int} (h1 : 0 ≤ a) (h2 : 0 ≤ b) (h3 : 0 ≤ c) : dadd (dadd a b) c = dadd a (dadd b c) := by
  have e1 := dadd_nn h1 h2
  have e2 := dadd_nn h2 h3
  rw [e1, e2, dadd_nn (by omega) h3, dadd_nn h1 (by omega)]
  omega
theorem combF_comm (k a b : Int) : combF k a b = combF k b a := by unfold combF; rw [dadd_comm, Int.min_comm]
theorem combF_assoc (k : Int) {a b c : Int} (h1 : 0 ≤ a) (h2 : 0 ≤ b) (h3 : 0 ≤ c) : combF k (combF k a b) c = combF k a (combF k b c) := by
  unfold combF
  by_cases k1 : k = 1
  · simp only [k1, if_true]; exact dadd_assoc h1 h2 h3
  · by_cases k2 : k = 2 ∨ k = 3
    · simp only [k1, k2, if_true, if_false]; omega
    · simp only [k1, k2, if_false]
theorem combF_b (k : Int) {a b : Int} (h1 : 0 ≤ a) (h2 : 0 ≤ b) (h3 : a ≤ 9223372036854775807) (h4 : b ≤ 9223372036854775807) : i64B (combF k a b) := by
  unfold combF i64B
  have := dadd_nn h1 h2
  (repeat' split) <;> omega
theorem joinF_comm (k s m q r : Int) : joinF k s m q r = joinF k q r s m := by unfold joinF; rw [dadd_comm s q, dadd_comm m r, Int.max_comm]
theorem joinF_assoc (k : Int) {a b c d e f : Int} (h1 : 0 ≤ a) (h2 : 0 ≤ b) (h3 : 0 ≤ c) (h4 : 0 ≤ d) (h5 : 0 ≤ e) (h6 : 0 ≤ f) : joinF k (joinF k a b c d).1 (joinF k a b c d).2 e f = joinF k a b (joinF k c d e f).1 (joinF k c d e f).2 := by
  unfold joinF
  by_cases k1 : k = 1
  · simp only [k1, if_true]
    rw [dadd_assoc h1 h3 h5, Int.max_assoc]
  · by_cases k2 : k = 2 ∨ k = 3
    · simp only [k1, k2, if_true, if_false]
      rw [dadd_assoc h1 h3 h5, dadd_assoc h2 h4 h6]
    · simp only [k1, k2, if_false]
theorem joinF_b (k : Int) {a b c d : Int} (h1 : 0 ≤ a) (h2 : 0 ≤ b) (h3 : 0 ≤ c) (h4 : 0 ≤ d) (g1 : a ≤ 9223372036854775807) (g2 : b ≤ 9223372036854775807) (g3 : c ≤ 9223372036854775807) (g4 : d ≤ 9223372036854775807) : i64B (joinF k a b c d).1 ∧ i64B (joinF k a b c d).2 := by
  unfold joinF i64B
  have e1 := dadd_nn h1 h3
  have e2 := dadd_nn h2 h4
  by_cases k1 : k = 1
  · simp only [k1, if_true]; omega
  · by_cases k2 : k = 2 ∨ k = 3
    · simp only [k1, k2, if_true, if_false]; omega
    · simp only [k1, k2, if_false]; omega
set_option maxRecDepth 100000 in
set_option maxHeartbeats 32000000 in
theorem algosOrder_go (w : World) (k j1 j2 j3 j4 a b c : Int) (ha : i64B a) (hb : i64B b) (hc0 : i64B c) :
    Calls Try.prog 6 #[.agg #[.int .u8 k, .int .i64 j1, .int .i64 j2, .int .i64 j3, .int .i64 j4], .int .i64 a, .int .i64 b, .int .i64 c] w fun e w' => e = .returned (.bool true) ∧ Below w.heap.size w w' := by
  obtain ⟨u, hu⟩ : ∃ u, w.alloc (.cells #[.int .u8 k, .int .i64 j1, .int .i64 j2, .int .i64 j3, .int .i64 j4] 26) = u := ⟨_, rfl⟩
  have l0 : w.heap.size < u.heap.size := by rw [← hu]; simp
  have hbu := hide (show Below w.heap.size w u by rw [← hu]; exact (Below.refl _ _).alloc (Nat.le_refl _) _)
  have M0 := hide (show u.heap[w.heap.size]? = some (.cells #[.int .u8 k, .int .i64 j1, .int .i64 j2, .int .i64 j3, .int .i64 j4] 26) by rw [← hu]; exact heap_alloc_last _ _)
  have HU := hide hu
  clear hu
  by_cases ha0 : a < 0
  · obtain ⟨x, hx⟩ : ∃ x, combF k a b = x := ⟨_, rfl⟩
    have HX := hide hx
    clear hx
    go_enter Try.func6, Try.ntmps6
    go_upto_region 2 with fail
    rw [HU.out]
    have N0 := M0.out
    have c0 : u.cell? ⟨w.heap.size, 0, none⟩ = some (.int .u8 k) := cell_of_row _ _ 0 _ _ _ N0
    have c1 : u.cell? ⟨w.heap.size, 1, none⟩ = some (.int .i64 j1) := cell_of_row _ _ 1 _ _ _ N0
    have c2 : u.cell? ⟨w.heap.size, 2, none⟩ = some (.int .i64 j2) := cell_of_row _ _ 2 _ _ _ N0
    have c3 : u.cell? ⟨w.heap.size, 3, none⟩ = some (.int .i64 j3) := cell_of_row _ _ 3 _ _ _ N0
    have c4 : u.cell? ⟨w.heap.size, 4, none⟩ = some (.int .i64 j4) := cell_of_row _ _ 4 _ _ _ N0
    clear N0
    refine wp_region_held_drew (S := Kept u) (by kernel_rfl) (Kept.drew u) (fun hS0 => ?_)
    refine take_at (i := 0) (d := 24) (v := ?_) (by simp only [List.getElem?_toArray, List.getElem?_cons_succ, List.getElem?_cons_zero]; rfl) rfl (by kernel_rfl) (by kernel_rfl) (by kernel_rfl) (fun _ _ _ h => h) rfl ?_ (by assumption) ?_
    rotate_left
    focus (intro w hSw; go_simp; (try with_reducible rfl); done)
    try simp only [List.setIfInBounds_toArray, List.set_cons_zero, List.set_cons_succ]
    refine take_at (i := 1) (d := 25) (v := ?_) (by simp only [List.getElem?_toArray, List.getElem?_cons_succ, List.getElem?_cons_zero]; rfl) rfl (by kernel_rfl) (by kernel_rfl) (by kernel_rfl) (fun _ _ _ h => h) rfl ?_ (by assumption) ?_
    rotate_left
    focus (intro w hSw; go_simp; (try with_reducible rfl); done)
    try simp only [List.setIfInBounds_toArray, List.set_cons_zero, List.set_cons_succ]
    refine take_at (i := 2) (d := 26) (v := ?_) (by simp only [List.getElem?_toArray, List.getElem?_cons_succ, List.getElem?_cons_zero]; rfl) rfl (by kernel_rfl) (by kernel_rfl) (by kernel_rfl) (fun _ _ _ h => h) rfl ?_ (by assumption) ?_
    rotate_left
    focus (intro w hSw; go_simp; (try with_reducible rfl); done)
    try simp only [List.setIfInBounds_toArray, List.set_cons_zero, List.set_cons_succ]
    refine take_at (i := 4) (d := 28) (v := ?_) (by simp only [List.getElem?_toArray, List.getElem?_cons_succ, List.getElem?_cons_zero]; rfl) rfl (by kernel_rfl) (by kernel_rfl) (by kernel_rfl) (fun _ _ _ h => h) rfl ?_ (by assumption) ?_
    rotate_left
    focus (intro w hSw; go_simp; (try with_reducible rfl); done)
    try simp only [List.setIfInBounds_toArray, List.set_cons_zero, List.set_cons_succ]
    refine take_at (i := 5) (d := 29) (v := ?_) (by simp only [List.getElem?_toArray, List.getElem?_cons_succ, List.getElem?_cons_zero]; rfl) rfl (by kernel_rfl) (by kernel_rfl) (by kernel_rfl) (fun _ _ _ h => h) rfl ?_ (by assumption) ?_
    rotate_left
    focus (intro w hSw; go_simp; (try with_reducible rfl); done)
    try simp only [List.setIfInBounds_toArray, List.set_cons_zero, List.set_cons_succ]
    refine take_at (i := 6) (d := 30) (v := ?_) (by simp only [List.getElem?_toArray, List.getElem?_cons_succ, List.getElem?_cons_zero]; rfl) rfl (by kernel_rfl) (by kernel_rfl) (by kernel_rfl) (fun _ _ _ h => h) rfl ?_ (by assumption) ?_
    rotate_left
    focus (intro w hSw; go_simp; (try with_reducible rfl); done)
    try simp only [List.setIfInBounds_toArray, List.set_cons_zero, List.set_cons_succ]
    refine call_at (i := 3) (d := 27) (by simp only [List.getElem?_toArray, List.getElem?_cons_succ, List.getElem?_cons_zero]; rfl) rfl (by kernel_rfl) rfl (fun K hK => ?_)
    go_simp
    have hc := comb_any u.drew k j1 j2 j3 j4 a b ha.1 ha.2 hb.1 hb.2
    rw [HX.out] at hc
    refine hc.mono ?_
    clear hc
    rintro e z1 ⟨rfl, hz⟩
    have hS1 : Kept u z1 := hS0.below (by simp) hz
    have q1 : u.heap.size ≤ z1.heap.size := by have := hz.size; simpa using this
    have B1 := hide ((below_dr0 u.heap.size u).trans (hz.mono (Nat.le_refl _)))
    clear hz
    go_wp2_with fail
    refine hK.out _ _ hS1 (fun hSn => ?_)
    clear hK K
    try simp only [List.setIfInBounds_toArray, List.set_cons_zero, List.set_cons_succ]
    refine call_at (i := 7) (d := 31) (by simp only [List.getElem?_toArray, List.getElem?_cons_succ, List.getElem?_cons_zero]; rfl) rfl (by kernel_rfl) rfl (fun K hK => ?_)
    go_simp
    have hc := rcomb_any z1 k j1 j2 j3 j4 a b
    rw [HX.out] at hc
    refine hc.mono ?_
    clear hc
    rintro e z2 ⟨rfl, hz⟩
    have hS2 : Kept u z2 := hS1.below q1 hz
    have q2 : u.heap.size ≤ z2.heap.size := Nat.le_trans q1 hz.size
    have B2 := hide (B1.out.trans (hz.mono q1))
    clear hz
    go_wp2_with fail
    refine hK.out _ _ hS2 (fun hSn => ?_)
    clear hK K
    try simp only [List.setIfInBounds_toArray, List.set_cons_zero, List.set_cons_succ]
    refine take_at (i := 8) (d := 32) (v := ?_) (by simp only [List.getElem?_toArray, List.getElem?_cons_succ, List.getElem?_cons_zero]; rfl) rfl (by kernel_rfl) (by kernel_rfl) (by kernel_rfl) (fun _ _ _ h => h) rfl ?_ (by assumption) ?_
    rotate_left
    focus (intro w hSw; go_simp; (try with_reducible rfl); done)
    try simp only [List.setIfInBounds_toArray, List.set_cons_zero, List.set_cons_succ]
    refine take_at (i := 9) (d := 33) (v := ?_) (by simp only [List.getElem?_toArray, List.getElem?_cons_succ, List.getElem?_cons_zero]; rfl) rfl (by kernel_rfl) (by kernel_rfl) (by kernel_rfl) (fun _ _ _ h => h) rfl ?_ (by assumption) ?_
    rotate_left
    focus (intro w hSw; go_simp; (try with_reducible rfl); done)
    try simp only [List.setIfInBounds_toArray, List.set_cons_zero, List.set_cons_succ]
    refine call_at (i := 10) (d := 34) (by simp only [List.getElem?_toArray, List.getElem?_cons_succ, List.getElem?_cons_zero]; rfl) rfl (by kernel_rfl) rfl (fun K hK => ?_)
    go_simp
    have hc := works_any z2
    refine hc.mono ?_
    clear hc
    rintro e z3 ⟨rfl, hz⟩
    have hS3 : Kept u z3 := hS2.below q2 hz
    have q3 : u.heap.size ≤ z3.heap.size := Nat.le_trans q2 hz.size
    have B3 := hide (B2.out.trans (hz.mono q2))
    clear hz
    go_wp2_with fail
    refine hK.out _ _ hS3 (fun hSn => ?_)
    clear hK K
    try simp only [List.setIfInBounds_toArray, List.set_cons_zero, List.set_cons_succ]
    refine take_at (i := 11) (d := 35) (v := ?_) (by simp only [List.getElem?_toArray, List.getElem?_cons_succ, List.getElem?_cons_zero]; rfl) rfl (by kernel_rfl) (by kernel_rfl) (by kernel_rfl) (fun _ _ _ h => h) rfl ?_ (by assumption) ?_
    rotate_left
    focus (intro w hSw; go_simp; (try with_reducible rfl); done)
    try simp only [List.setIfInBounds_toArray, List.set_cons_zero, List.set_cons_succ]
    refine take_at (i := 12) (d := 8) (v := ?_) (by simp only [List.getElem?_toArray, List.getElem?_cons_succ, List.getElem?_cons_zero]; rfl) rfl (by kernel_rfl) (by kernel_rfl) (by kernel_rfl) (fun _ _ _ h => h) rfl ?_ (by assumption) ?_
    rotate_left
    focus (intro w hSw; go_simp; (try with_reducible rfl); done)
    try simp only [List.setIfInBounds_toArray, List.set_cons_zero, List.set_cons_succ]
    refine wpAnyH_done (by kernel_rfl) ?_ _
    have HF := hide (hbu.out.trans (B3.out.mono (by omega)))
    go_wp2
    go_ret
    exact ⟨rfl, HF.out⟩
  by_cases hb0 : b < 0
  · obtain ⟨x, hx⟩ : ∃ x, combF k a b = x := ⟨_, rfl⟩
    have HX := hide hx
    clear hx
    go_enter Try.func6, Try.ntmps6
    go_upto_region 2 with fail
    rw [HU.out]
    have N0 := M0.out
    have c0 : u.cell? ⟨w.heap.size, 0, none⟩ = some (.int .u8 k) := cell_of_row _ _ 0 _ _ _ N0
    have c1 : u.cell? ⟨w.heap.size, 1, none⟩ = some (.int .i64 j1) := cell_of_row _ _ 1 _ _ _ N0
    have c2 : u.cell? ⟨w.heap.size, 2, none⟩ = some (.int .i64 j2) := cell_of_row _ _ 2 _ _ _ N0
    have c3 : u.cell? ⟨w.heap.size, 3, none⟩ = some (.int .i64 j3) := cell_of_row _ _ 3 _ _ _ N0
    have c4 : u.cell? ⟨w.heap.size, 4, none⟩ = some (.int .i64 j4) := cell_of_row _ _ 4 _ _ _ N0
    clear N0
    refine wp_region_held_drew (S := Kept u) (by kernel_rfl) (Kept.drew u) (fun hS0 => ?_)
    refine take_at (i := 0) (d := 24) (v := ?_) (by simp only [List.getElem?_toArray, List.getElem?_cons_succ, List.getElem?_cons_zero]; rfl) rfl (by kernel_rfl) (by kernel_rfl) (by kernel_rfl) (fun _ _ _ h => h) rfl ?_ (by assumption) ?_
    rotate_left
    focus (intro w hSw; go_simp; (try with_reducible rfl); done)
    try simp only [List.setIfInBounds_toArray, List.set_cons_zero, List.set_cons_succ]
    refine take_at (i := 1) (d := 25) (v := ?_) (by simp only [List.getElem?_toArray, List.getElem?_cons_succ, List.getElem?_cons_zero]; rfl) rfl (by kernel_rfl) (by kernel_rfl) (by kernel_rfl) (fun _ _ _ h => h) rfl ?_ (by assumption) ?_
    rotate_left
    focus (intro w hSw; go_simp; (try with_reducible rfl); done)
    try simp only [List.setIfInBounds_toArray, List.set_cons_zero, List.set_cons_succ]
    refine take_at (i := 2) (d := 26) (v := ?_) (by simp only [List.getElem?_toArray, List.getElem?_cons_succ, List.getElem?_cons_zero]; rfl) rfl (by kernel_rfl) (by kernel_rfl) (by kernel_rfl) (fun _ _ _ h => h) rfl ?_ (by assumption) ?_
    rotate_left
    focus (intro w hSw; go_simp; (try with_reducible rfl); done)
    try simp only [List.setIfInBounds_toArray, List.set_cons_zero, List.set_cons_succ]
    refine take_at (i := 4) (d := 28) (v := ?_) (by simp only [List.getElem?_toArray, List.getElem?_cons_succ, List.getElem?_cons_zero]; rfl) rfl (by kernel_rfl) (by kernel_rfl) (by kernel_rfl) (fun _ _ _ h => h) rfl ?_ (by assumption) ?_
    rotate_left
    focus (intro w hSw; go_simp; (try with_reducible rfl); done)
    try simp only [List.setIfInBounds_toArray, List.set_cons_zero, List.set_cons_succ]
    refine take_at (i := 5) (d := 29) (v := ?_) (by simp only [List.getElem?_toArray, List.getElem?_cons_succ, List.getElem?_cons_zero]; rfl) rfl (by kernel_rfl) (by kernel_rfl) (by kernel_rfl) (fun _ _ _ h => h) rfl ?_ (by assumption) ?_
    rotate_left
    focus (intro w hSw; go_simp; (try with_reducible rfl); done)
    try simp only [List.setIfInBounds_toArray, List.set_cons_zero, List.set_cons_succ]
    refine take_at (i := 6) (d := 30) (v := ?_) (by simp only [List.getElem?_toArray, List.getElem?_cons_succ, List.getElem?_cons_zero]; rfl) rfl (by kernel_rfl) (by kernel_rfl) (by kernel_rfl) (fun _ _ _ h => h) rfl ?_ (by assumption) ?_
    rotate_left
    focus (intro w hSw; go_simp; (try with_reducible rfl); done)
    try simp only [List.setIfInBounds_toArray, List.set_cons_zero, List.set_cons_succ]
    refine call_at (i := 3) (d := 27) (by simp only [List.getElem?_toArray, List.getElem?_cons_succ, List.getElem?_cons_zero]; rfl) rfl (by kernel_rfl) rfl (fun K hK => ?_)
    go_simp
    have hc := comb_any u.drew k j1 j2 j3 j4 a b ha.1 ha.2 hb.1 hb.2
    rw [HX.out] at hc
    refine hc.mono ?_
    clear hc
    rintro e z1 ⟨rfl, hz⟩
    have hS1 : Kept u z1 := hS0.below (by simp) hz
    have q1 : u.heap.size ≤ z1.heap.size := by have := hz.size; simpa using this
    have B1 := hide ((below_dr0 u.heap.size u).trans (hz.mono (Nat.le_refl _)))
    clear hz
    go_wp2_with fail
    refine hK.out _ _ hS1 (fun hSn => ?_)
    clear hK K
    try simp only [List.setIfInBounds_toArray, List.set_cons_zero, List.set_cons_succ]
    refine call_at (i := 7) (d := 31) (by simp only [List.getElem?_toArray, List.getElem?_cons_succ, List.getElem?_cons_zero]; rfl) rfl (by kernel_rfl) rfl (fun K hK => ?_)
    go_simp
    have hc := rcomb_any z1 k j1 j2 j3 j4 a b
    rw [HX.out] at hc
    refine hc.mono ?_
    clear hc
    rintro e z2 ⟨rfl, hz⟩
    have hS2 : Kept u z2 := hS1.below q1 hz
    have q2 : u.heap.size ≤ z2.heap.size := Nat.le_trans q1 hz.size
    have B2 := hide (B1.out.trans (hz.mono q1))
    clear hz
    go_wp2_with fail
    refine hK.out _ _ hS2 (fun hSn => ?_)
    clear hK K
    try simp only [List.setIfInBounds_toArray, List.set_cons_zero, List.set_cons_succ]
    refine take_at (i := 8) (d := 32) (v := ?_) (by simp only [List.getElem?_toArray, List.getElem?_cons_succ, List.getElem?_cons_zero]; rfl) rfl (by kernel_rfl) (by kernel_rfl) (by kernel_rfl) (fun _ _ _ h => h) rfl ?_ (by assumption) ?_
    rotate_left
    focus (intro w hSw; go_simp; (try with_reducible rfl); done)
    try simp only [List.setIfInBounds_toArray, List.set_cons_zero, List.set_cons_succ]
    refine take_at (i := 9) (d := 33) (v := ?_) (by simp only [List.getElem?_toArray, List.getElem?_cons_succ, List.getElem?_cons_zero]; rfl) rfl (by kernel_rfl) (by kernel_rfl) (by kernel_rfl) (fun _ _ _ h => h) rfl ?_ (by assumption) ?_
    rotate_left
    focus (intro w hSw; go_simp; (try with_reducible rfl); done)
    try simp only [List.setIfInBounds_toArray, List.set_cons_zero, List.set_cons_succ]
    refine call_at (i := 10) (d := 34) (by simp only [List.getElem?_toArray, List.getElem?_cons_succ, List.getElem?_cons_zero]; rfl) rfl (by kernel_rfl) rfl (fun K hK => ?_)
    go_simp
    have hc := works_any z2
    refine hc.mono ?_
    clear hc
    rintro e z3 ⟨rfl, hz⟩
    have hS3 : Kept u z3 := hS2.below q2 hz
    have q3 : u.heap.size ≤ z3.heap.size := Nat.le_trans q2 hz.size
    have B3 := hide (B2.out.trans (hz.mono q2))
    clear hz
    go_wp2_with fail
    refine hK.out _ _ hS3 (fun hSn => ?_)
    clear hK K
    try simp only [List.setIfInBounds_toArray, List.set_cons_zero, List.set_cons_succ]
    refine take_at (i := 11) (d := 35) (v := ?_) (by simp only [List.getElem?_toArray, List.getElem?_cons_succ, List.getElem?_cons_zero]; rfl) rfl (by kernel_rfl) (by kernel_rfl) (by kernel_rfl) (fun _ _ _ h => h) rfl ?_ (by assumption) ?_
    rotate_left
    focus (intro w hSw; go_simp; (try with_reducible rfl); done)
    try simp only [List.setIfInBounds_toArray, List.set_cons_zero, List.set_cons_succ]
    refine take_at (i := 12) (d := 8) (v := ?_) (by simp only [List.getElem?_toArray, List.getElem?_cons_succ, List.getElem?_cons_zero]; rfl) rfl (by kernel_rfl) (by kernel_rfl) (by kernel_rfl) (fun _ _ _ h => h) rfl ?_ (by assumption) ?_
    rotate_left
    focus (intro w hSw; go_simp; (try with_reducible rfl); done)
    try simp only [List.setIfInBounds_toArray, List.set_cons_zero, List.set_cons_succ]
    refine wpAnyH_done (by kernel_rfl) ?_ _
    have HF := hide (hbu.out.trans (B3.out.mono (by omega)))
    go_wp2
    go_ret
    exact ⟨rfl, HF.out⟩
  by_cases hcc : c < 0
  · obtain ⟨x, hx⟩ : ∃ x, combF k a b = x := ⟨_, rfl⟩
    have HX := hide hx
    clear hx
    go_enter Try.func6, Try.ntmps6
    go_upto_region 2 with fail
    rw [HU.out]
    have N0 := M0.out
    have c0 : u.cell? ⟨w.heap.size, 0, none⟩ = some (.int .u8 k) := cell_of_row _ _ 0 _ _ _ N0
    have c1 : u.cell? ⟨w.heap.size, 1, none⟩ = some (.int .i64 j1) := cell_of_row _ _ 1 _ _ _ N0
    have c2 : u.cell? ⟨w.heap.size, 2, none⟩ = some (.int .i64 j2) := cell_of_row _ _ 2 _ _ _ N0
    have c3 : u.cell? ⟨w.heap.size, 3, none⟩ = some (.int .i64 j3) := cell_of_row _ _ 3 _ _ _ N0
    have c4 : u.cell? ⟨w.heap.size, 4, none⟩ = some (.int .i64 j4) := cell_of_row _ _ 4 _ _ _ N0
    clear N0
    refine wp_region_held_drew (S := Kept u) (by kernel_rfl) (Kept.drew u) (fun hS0 => ?_)
    refine take_at (i := 0) (d := 24) (v := ?_) (by simp only [List.getElem?_toArray, List.getElem?_cons_succ, List.getElem?_cons_zero]; rfl) rfl (by kernel_rfl) (by kernel_rfl) (by kernel_rfl) (fun _ _ _ h => h) rfl ?_ (by assumption) ?_
    rotate_left
    focus (intro w hSw; go_simp; (try with_reducible rfl); done)
    try simp only [List.setIfInBounds_toArray, List.set_cons_zero, List.set_cons_succ]
    refine take_at (i := 1) (d := 25) (v := ?_) (by simp only [List.getElem?_toArray, List.getElem?_cons_succ, List.getElem?_cons_zero]; rfl) rfl (by kernel_rfl) (by kernel_rfl) (by kernel_rfl) (fun _ _ _ h => h) rfl ?_ (by assumption) ?_
    rotate_left
    focus (intro w hSw; go_simp; (try with_reducible rfl); done)
    try simp only [List.setIfInBounds_toArray, List.set_cons_zero, List.set_cons_succ]
    refine take_at (i := 2) (d := 26) (v := ?_) (by simp only [List.getElem?_toArray, List.getElem?_cons_succ, List.getElem?_cons_zero]; rfl) rfl (by kernel_rfl) (by kernel_rfl) (by kernel_rfl) (fun _ _ _ h => h) rfl ?_ (by assumption) ?_
    rotate_left
    focus (intro w hSw; go_simp; (try with_reducible rfl); done)
    try simp only [List.setIfInBounds_toArray, List.set_cons_zero, List.set_cons_succ]
    refine take_at (i := 4) (d := 28) (v := ?_) (by simp only [List.getElem?_toArray, List.getElem?_cons_succ, List.getElem?_cons_zero]; rfl) rfl (by kernel_rfl) (by kernel_rfl) (by kernel_rfl) (fun _ _ _ h => h) rfl ?_ (by assumption) ?_
    rotate_left
    focus (intro w hSw; go_simp; (try with_reducible rfl); done)
    try simp only [List.setIfInBounds_toArray, List.set_cons_zero, List.set_cons_succ]
    refine take_at (i := 5) (d := 29) (v := ?_) (by simp only [List.getElem?_toArray, List.getElem?_cons_succ, List.getElem?_cons_zero]; rfl) rfl (by kernel_rfl) (by kernel_rfl) (by kernel_rfl) (fun _ _ _ h => h) rfl ?_ (by assumption) ?_
    rotate_left
    focus (intro w hSw; go_simp; (try with_reducible rfl); done)
    try simp only [List.setIfInBounds_toArray, List.set_cons_zero, List.set_cons_succ]
    refine take_at (i := 6) (d := 30) (v := ?_) (by simp only [List.getElem?_toArray, List.getElem?_cons_succ, List.getElem?_cons_zero]; rfl) rfl (by kernel_rfl) (by kernel_rfl) (by kernel_rfl) (fun _ _ _ h => h) rfl ?_ (by assumption) ?_
    rotate_left
    focus (intro w hSw; go_simp; (try with_reducible rfl); done)
    try simp only [List.setIfInBounds_toArray, List.set_cons_zero, List.set_cons_succ]
    refine call_at (i := 3) (d := 27) (by simp only [List.getElem?_toArray, List.getElem?_cons_succ, List.getElem?_cons_zero]; rfl) rfl (by kernel_rfl) rfl (fun K hK => ?_)
    go_simp
    have hc := comb_any u.drew k j1 j2 j3 j4 a b ha.1 ha.2 hb.1 hb.2
    rw [HX.out] at hc
    refine hc.mono ?_
    clear hc
    rintro e z1 ⟨rfl, hz⟩
    have hS1 : Kept u z1 := hS0.below (by simp) hz
    have q1 : u.heap.size ≤ z1.heap.size := by have := hz.size; simpa using this
    have B1 := hide ((below_dr0 u.heap.size u).trans (hz.mono (Nat.le_refl _)))
    clear hz
    go_wp2_with fail
    refine hK.out _ _ hS1 (fun hSn => ?_)
    clear hK K
    try simp only [List.setIfInBounds_toArray, List.set_cons_zero, List.set_cons_succ]
    refine call_at (i := 7) (d := 31) (by simp only [List.getElem?_toArray, List.getElem?_cons_succ, List.getElem?_cons_zero]; rfl) rfl (by kernel_rfl) rfl (fun K hK => ?_)
    go_simp
    have hc := rcomb_any z1 k j1 j2 j3 j4 a b
    rw [HX.out] at hc
    refine hc.mono ?_
    clear hc
    rintro e z2 ⟨rfl, hz⟩
    have hS2 : Kept u z2 := hS1.below q1 hz
    have q2 : u.heap.size ≤ z2.heap.size := Nat.le_trans q1 hz.size
    have B2 := hide (B1.out.trans (hz.mono q1))
    clear hz
    go_wp2_with fail
    refine hK.out _ _ hS2 (fun hSn => ?_)
    clear hK K
    try simp only [List.setIfInBounds_toArray, List.set_cons_zero, List.set_cons_succ]
    refine take_at (i := 8) (d := 32) (v := ?_) (by simp only [List.getElem?_toArray, List.getElem?_cons_succ, List.getElem?_cons_zero]; rfl) rfl (by kernel_rfl) (by kernel_rfl) (by kernel_rfl) (fun _ _ _ h => h) rfl ?_ (by assumption) ?_
    rotate_left
    focus (intro w hSw; go_simp; (try with_reducible rfl); done)
    try simp only [List.setIfInBounds_toArray, List.set_cons_zero, List.set_cons_succ]
    refine take_at (i := 9) (d := 33) (v := ?_) (by simp only [List.getElem?_toArray, List.getElem?_cons_succ, List.getElem?_cons_zero]; rfl) rfl (by kernel_rfl) (by kernel_rfl) (by kernel_rfl) (fun _ _ _ h => h) rfl ?_ (by assumption) ?_
    rotate_left
    focus (intro w hSw; go_simp; (try with_reducible rfl); done)
    try simp only [List.setIfInBounds_toArray, List.set_cons_zero, List.set_cons_succ]
    refine call_at (i := 10) (d := 34) (by simp only [List.getElem?_toArray, List.getElem?_cons_succ, List.getElem?_cons_zero]; rfl) rfl (by kernel_rfl) rfl (fun K hK => ?_)
    go_simp
    have hc := works_any z2
    refine hc.mono ?_
    clear hc
    rintro e z3 ⟨rfl, hz⟩
    have hS3 : Kept u z3 := hS2.below q2 hz
    have q3 : u.heap.size ≤ z3.heap.size := Nat.le_trans q2 hz.size
    have B3 := hide (B2.out.trans (hz.mono q2))
    clear hz
    go_wp2_with fail
    refine hK.out _ _ hS3 (fun hSn => ?_)
    clear hK K
    try simp only [List.setIfInBounds_toArray, List.set_cons_zero, List.set_cons_succ]
    refine take_at (i := 11) (d := 35) (v := ?_) (by simp only [List.getElem?_toArray, List.getElem?_cons_succ, List.getElem?_cons_zero]; rfl) rfl (by kernel_rfl) (by kernel_rfl) (by kernel_rfl) (fun _ _ _ h => h) rfl ?_ (by assumption) ?_
    rotate_left
    focus (intro w hSw; go_simp; (try with_reducible rfl); done)
    try simp only [List.setIfInBounds_toArray, List.set_cons_zero, List.set_cons_succ]
    refine take_at (i := 12) (d := 8) (v := ?_) (by simp only [List.getElem?_toArray, List.getElem?_cons_succ, List.getElem?_cons_zero]; rfl) rfl (by kernel_rfl) (by kernel_rfl) (by kernel_rfl) (fun _ _ _ h => h) rfl ?_ (by assumption) ?_
    rotate_left
    focus (intro w hSw; go_simp; (try with_reducible rfl); done)
    try simp only [List.setIfInBounds_toArray, List.set_cons_zero, List.set_cons_succ]
    refine wpAnyH_done (by kernel_rfl) ?_ _
    have HF := hide (hbu.out.trans (B3.out.mono (by omega)))
    go_wp2
    go_ret
    exact ⟨rfl, HF.out⟩
  have n1 : ¬ a < 0 := ha0
  have n2 : ¬ b < 0 := hb0
  have n3 : ¬ c < 0 := hcc
  replace ha0 : 0 ≤ a := by omega
  replace hb0 : 0 ≤ b := by omega
  replace hcc : 0 ≤ c := by omega
  obtain ⟨x, hx⟩ : ∃ z, combF k a b = z := ⟨_, rfl⟩
  have hxb := combF_b k ha0 hb0 ha.2 hb.2
  rw [hx] at hxb
  have HXC := hide ((combF_comm k b a).trans hx)
  obtain ⟨y, hy⟩ : ∃ z, combF k x c = z := ⟨_, rfl⟩
  obtain ⟨z, hz⟩ : ∃ z, combF k b c = z := ⟨_, rfl⟩
  have hzb := combF_b k hb0 hcc hb.2 hc0.2
  rw [hz] at hzb
  have HYA : Hid (combF k a z = y) := hide (by rw [← hy, ← hx, ← hz]; exact (combF_assoc k ha0 hb0 hcc).symm)
  have HX := hide hx
  have HY := hide hy
  have HZ := hide hz
  clear hx hy hz
  obtain ⟨⟨y1, y2⟩, hyy⟩ : ∃ z, joinF k a b b c = z := ⟨_, rfl⟩
  have byy := joinF_b k ha0 hb0 hb0 hcc ha.2 hb.2 hb.2 hc0.2
  rw [hyy] at byy
  have hy1 : i64B y1 := byy.1
  have hy2 : i64B y2 := byy.2
  clear byy
  have HP1 := hide (show (joinF k a b b c).1 = y1 by rw [hyy])
  have HP2 := hide (show (joinF k a b b c).2 = y2 by rw [hyy])
  have HQ1 := hide (show (joinF k b c a b).1 = y1 by rw [joinF_comm, hyy])
  have HQ2 := hide (show (joinF k b c a b).2 = y2 by rw [joinF_comm, hyy])
  obtain ⟨⟨t1, t2⟩, htt⟩ : ∃ z, joinF k b c c a = z := ⟨_, rfl⟩
  have btt := joinF_b k hb0 hcc hcc ha0 hb.2 hc0.2 hc0.2 ha.2
  rw [htt] at btt
  have ht1 : i64B t1 := btt.1
  have ht2 : i64B t2 := btt.2
  clear btt
  have HT1 := hide (show (joinF k b c c a).1 = t1 by rw [htt])
  have HT2 := hide (show (joinF k b c c a).2 = t2 by rw [htt])
  obtain ⟨⟨e1, e2⟩, hee⟩ : ∃ z, joinF k y1 y2 c a = z := ⟨_, rfl⟩
  have HE1 := hide (show (joinF k y1 y2 c a).1 = e1 by rw [hee])
  have HE2 := hide (show (joinF k y1 y2 c a).2 = e2 by rw [hee])
  have hasc : joinF k a b t1 t2 = (e1, e2) := by rw [← hee]; have h := joinF_assoc k ha0 hb0 hb0 hcc hcc ha0; rw [hyy, htt] at h; exact h.symm
  have HD1 := hide (show (joinF k a b t1 t2).1 = e1 by rw [hasc])
  have HD2 := hide (show (joinF k a b t1 t2).2 = e2 by rw [hasc])
  clear hyy htt hee hasc
  go_enter Try.func6, Try.ntmps6
  have N0 := M0.out
  have c0 : u.cell? ⟨w.heap.size, 0, none⟩ = some (.int .u8 k) := cell_of_row _ _ 0 _ _ _ N0
  have c1 : u.cell? ⟨w.heap.size, 1, none⟩ = some (.int .i64 j1) := cell_of_row _ _ 1 _ _ _ N0
  have c2 : u.cell? ⟨w.heap.size, 2, none⟩ = some (.int .i64 j2) := cell_of_row _ _ 2 _ _ _ N0
  have c3 : u.cell? ⟨w.heap.size, 3, none⟩ = some (.int .i64 j3) := cell_of_row _ _ 3 _ _ _ N0
  have c4 : u.cell? ⟨w.heap.size, 4, none⟩ = some (.int .i64 j4) := cell_of_row _ _ 4 _ _ _ N0
  clear N0
  go_wp2_with fail
  rw [HU.out]
  have hcl := comb_any u k j1 j2 j3 j4 a b ha.1 ha.2 hb.1 hb.2
  rw [HX.out] at hcl
  refine hcl.mono ?_
  clear hcl
  rintro e v ⟨rfl, hz⟩
  have MV := hide ((hz.block _ l0).trans M0.out)
  have hbv := hide (hbu.out.trans (hz.mono (by omega)))
  have l1 : w.heap.size < v.heap.size := by have := hz.size; omega
  clear hz
  clear c0 c1 c2 c3 c4
  have N0 := MV.out
  have c0 : v.cell? ⟨w.heap.size, 0, none⟩ = some (.int .u8 k) := cell_of_row _ _ 0 _ _ _ N0
  have c1 : v.cell? ⟨w.heap.size, 1, none⟩ = some (.int .i64 j1) := cell_of_row _ _ 1 _ _ _ N0
  have c2 : v.cell? ⟨w.heap.size, 2, none⟩ = some (.int .i64 j2) := cell_of_row _ _ 2 _ _ _ N0
  have c3 : v.cell? ⟨w.heap.size, 3, none⟩ = some (.int .i64 j3) := cell_of_row _ _ 3 _ _ _ N0
  have c4 : v.cell? ⟨w.heap.size, 4, none⟩ = some (.int .i64 j4) := cell_of_row _ _ 4 _ _ _ N0
  clear N0
  go_upto_region 4 with fail
  refine wp_region_held_drew (S := Kept v) (by kernel_rfl) (Kept.drew v) (fun hS0 => ?_)
  refine take_at (i := 0) (d := 40) (v := ?_) (by simp only [List.getElem?_toArray, List.getElem?_cons_succ, List.getElem?_cons_zero]; rfl) rfl (by kernel_rfl) (by kernel_rfl) (by kernel_rfl) (fun _ _ _ h => h) rfl ?_ (by assumption) ?_
  rotate_left
  focus (intro w hSw; go_simp; (try with_reducible rfl); done)
  try simp only [List.setIfInBounds_toArray, List.set_cons_zero, List.set_cons_succ]
  refine take_at (i := 1) (d := 41) (v := ?_) (by simp only [List.getElem?_toArray, List.getElem?_cons_succ, List.getElem?_cons_zero]; rfl) rfl (by kernel_rfl) (by kernel_rfl) (by kernel_rfl) (fun _ _ _ h => h) rfl ?_ (by assumption) ?_
  rotate_left
  focus (intro w hSw; go_simp; (try with_reducible rfl); done)
  try simp only [List.setIfInBounds_toArray, List.set_cons_zero, List.set_cons_succ]
  refine take_at (i := 2) (d := 42) (v := ?_) (by simp only [List.getElem?_toArray, List.getElem?_cons_succ, List.getElem?_cons_zero]; rfl) rfl (by kernel_rfl) (by kernel_rfl) (by kernel_rfl) (fun _ _ _ h => h) rfl ?_ (by assumption) ?_
  rotate_left
  focus (intro w hSw; go_simp; (try with_reducible rfl); done)
  try simp only [List.setIfInBounds_toArray, List.set_cons_zero, List.set_cons_succ]
  refine take_at (i := 3) (d := 43) (v := ?_) (by simp only [List.getElem?_toArray, List.getElem?_cons_succ, List.getElem?_cons_zero]; rfl) rfl (by kernel_rfl) (by kernel_rfl) (by kernel_rfl) (fun _ _ _ h => h) rfl ?_ (by assumption) ?_
  rotate_left
  focus (intro w hSw; go_simp; (try with_reducible rfl); done)
  try simp only [List.setIfInBounds_toArray, List.set_cons_zero, List.set_cons_succ]
  refine call_at (i := 4) (d := 44) (by simp only [List.getElem?_toArray, List.getElem?_cons_succ, List.getElem?_cons_zero]; rfl) rfl (by kernel_rfl) rfl (fun K hK => ?_)
  go_simp
  have hc := rcomb_any v.drew k j1 j2 j3 j4 a b
  rw [HX.out] at hc
  refine hc.mono ?_
  clear hc
  rintro e z1 ⟨rfl, hz⟩
  have hS1 : Kept v z1 := hS0.below (by simp) hz
  have q1 : v.heap.size ≤ z1.heap.size := by have := hz.size; simpa using this
  have B1 := hide ((below_dr0 v.heap.size v).trans (hz.mono (Nat.le_refl _)))
  clear hz
  go_wp2_with fail
  refine hK.out _ _ hS1 (fun hSn => ?_)
  clear hK K
  try simp only [List.setIfInBounds_toArray, List.set_cons_zero, List.set_cons_succ]
  refine take_at (i := 5) (d := 45) (v := ?_) (by simp only [List.getElem?_toArray, List.getElem?_cons_succ, List.getElem?_cons_zero]; rfl) rfl (by kernel_rfl) (by kernel_rfl) (by kernel_rfl) (fun _ _ _ h => h) rfl ?_ (by assumption) ?_
  rotate_left
  focus (intro w hSw; go_simp; (try with_reducible rfl); done)
  try simp only [List.setIfInBounds_toArray, List.set_cons_zero, List.set_cons_succ]
  refine take_at (i := 6) (d := 46) (v := ?_) (by simp only [List.getElem?_toArray, List.getElem?_cons_succ, List.getElem?_cons_zero]; rfl) rfl (by kernel_rfl) (by kernel_rfl) (by kernel_rfl) (fun _ _ _ h => h) rfl ?_ (by assumption) ?_
  rotate_left
  focus (intro w hSw; go_simp; (try with_reducible rfl); done)
  try simp only [List.setIfInBounds_toArray, List.set_cons_zero, List.set_cons_succ]
  refine take_at (i := 7) (d := 47) (v := ?_) (by simp only [List.getElem?_toArray, List.getElem?_cons_succ, List.getElem?_cons_zero]; rfl) rfl (by kernel_rfl) (by kernel_rfl) (by kernel_rfl) (fun _ _ _ h => h) rfl ?_ (by assumption) ?_
  rotate_left
  focus (intro w hSw; go_simp; (try with_reducible rfl); done)
  try simp only [List.setIfInBounds_toArray, List.set_cons_zero, List.set_cons_succ]
  refine take_at (i := 8) (d := 48) (v := ?_) (by simp only [List.getElem?_toArray, List.getElem?_cons_succ, List.getElem?_cons_zero]; rfl) rfl (by kernel_rfl) (by kernel_rfl) (by kernel_rfl) (fun _ _ _ h => h) rfl ?_ (by assumption) ?_
  rotate_left
  focus (intro w hSw; go_simp; (try with_reducible rfl); done)
  try simp only [List.setIfInBounds_toArray, List.set_cons_zero, List.set_cons_succ]
  refine take_at (i := 9) (d := 49) (v := ?_) (by simp only [List.getElem?_toArray, List.getElem?_cons_succ, List.getElem?_cons_zero]; rfl) rfl (by kernel_rfl) (by kernel_rfl) (by kernel_rfl) (fun _ _ _ h => h) rfl ?_ (by assumption) ?_
  rotate_left
  focus (intro w hSw; go_simp; (try with_reducible rfl); done)
  try simp only [List.setIfInBounds_toArray, List.set_cons_zero, List.set_cons_succ]
  refine take_at (i := 10) (d := 50) (v := ?_) (by simp only [List.getElem?_toArray, List.getElem?_cons_succ, List.getElem?_cons_zero]; rfl) rfl (by kernel_rfl) (by kernel_rfl) (by kernel_rfl) (fun _ _ _ h => h) rfl ?_ (by assumption) ?_
  rotate_left
  focus (intro w hSw; go_simp; (try with_reducible rfl); done)
  try simp only [List.setIfInBounds_toArray, List.set_cons_zero, List.set_cons_succ]
  refine call_at (i := 11) (d := 51) (by simp only [List.getElem?_toArray, List.getElem?_cons_succ, List.getElem?_cons_zero]; rfl) rfl (by kernel_rfl) rfl (fun K hK => ?_)
  go_simp
  have hc := comb_any z1 k j1 j2 j3 j4 b a hb.1 hb.2 ha.1 ha.2
  rw [HXC.out] at hc
  refine hc.mono ?_
  clear hc
  rintro e z2 ⟨rfl, hz⟩
  have hS2 : Kept v z2 := hS1.below q1 hz
  have q2 : v.heap.size ≤ z2.heap.size := Nat.le_trans q1 hz.size
  have B2 := hide (B1.out.trans (hz.mono q1))
  clear hz
  go_wp2_with fail
  refine hK.out _ _ hS2 (fun hSn => ?_)
  clear hK K
  try simp only [List.setIfInBounds_toArray, List.set_cons_zero, List.set_cons_succ]
  refine take_at (i := 12) (d := 52) (v := ?_) (by simp only [List.getElem?_toArray, List.getElem?_cons_succ, List.getElem?_cons_zero]; rfl) rfl (by kernel_rfl) (by kernel_rfl) (by kernel_rfl) (fun _ _ _ h => h) rfl ?_ (by assumption) ?_
  rotate_left
  focus (intro w hSw; go_simp; (try with_reducible rfl); done)
  try simp only [List.setIfInBounds_toArray, List.set_cons_zero, List.set_cons_succ]
  refine take_at (i := 13) (d := 53) (v := ?_) (by simp only [List.getElem?_toArray, List.getElem?_cons_succ, List.getElem?_cons_zero]; rfl) rfl (by kernel_rfl) (by kernel_rfl) (by kernel_rfl) (fun _ _ _ h => h) rfl ?_ (by assumption) ?_
  rotate_left
  focus (intro w hSw; go_simp; (try with_reducible rfl); done)
  try simp only [List.setIfInBounds_toArray, List.set_cons_zero, List.set_cons_succ]
  refine take_at (i := 14) (d := 54) (v := ?_) (by simp only [List.getElem?_toArray, List.getElem?_cons_succ, List.getElem?_cons_zero]; rfl) rfl (by kernel_rfl) (by kernel_rfl) (by kernel_rfl) (fun _ _ _ h => h) rfl ?_ (by assumption) ?_
  rotate_left
  focus (intro w hSw; go_simp; (try with_reducible rfl); done)
  try simp only [List.setIfInBounds_toArray, List.set_cons_zero, List.set_cons_succ]
  refine take_at (i := 15) (d := 55) (v := ?_) (by simp only [List.getElem?_toArray, List.getElem?_cons_succ, List.getElem?_cons_zero]; rfl) rfl (by kernel_rfl) (by kernel_rfl) (by kernel_rfl) (fun _ _ _ h => h) rfl ?_ (by assumption) ?_
  rotate_left
  focus (intro w hSw; go_simp; (try with_reducible rfl); done)
  try simp only [List.setIfInBounds_toArray, List.set_cons_zero, List.set_cons_succ]
  refine take_at (i := 16) (d := 56) (v := ?_) (by simp only [List.getElem?_toArray, List.getElem?_cons_succ, List.getElem?_cons_zero]; rfl) rfl (by kernel_rfl) (by kernel_rfl) (by kernel_rfl) (fun _ _ _ h => h) rfl ?_ (by assumption) ?_
  rotate_left
  focus (intro w hSw; go_simp; (try with_reducible rfl); done)
  try simp only [List.setIfInBounds_toArray, List.set_cons_zero, List.set_cons_succ]
  refine take_at (i := 17) (d := 57) (v := ?_) (by simp only [List.getElem?_toArray, List.getElem?_cons_succ, List.getElem?_cons_zero]; rfl) rfl (by kernel_rfl) (by kernel_rfl) (by kernel_rfl) (fun _ _ _ h => h) rfl ?_ (by assumption) ?_
  rotate_left
  focus (intro w hSw; go_simp; (try with_reducible rfl); done)
  try simp only [List.setIfInBounds_toArray, List.set_cons_zero, List.set_cons_succ]
  refine take_at (i := 19) (d := 59) (v := ?_) (by simp only [List.getElem?_toArray, List.getElem?_cons_succ, List.getElem?_cons_zero]; rfl) rfl (by kernel_rfl) (by kernel_rfl) (by kernel_rfl) (fun _ _ _ h => h) rfl ?_ (by assumption) ?_
  rotate_left
  focus (intro w hSw; go_simp; (try with_reducible rfl); done)
  try simp only [List.setIfInBounds_toArray, List.set_cons_zero, List.set_cons_succ]
  refine take_at (i := 20) (d := 60) (v := ?_) (by simp only [List.getElem?_toArray, List.getElem?_cons_succ, List.getElem?_cons_zero]; rfl) rfl (by kernel_rfl) (by kernel_rfl) (by kernel_rfl) (fun _ _ _ h => h) rfl ?_ (by assumption) ?_
  rotate_left
  focus (intro w hSw; go_simp; (try with_reducible rfl); done)
  try simp only [List.setIfInBounds_toArray, List.set_cons_zero, List.set_cons_succ]
  refine take_at (i := 21) (d := 61) (v := ?_) (by simp only [List.getElem?_toArray, List.getElem?_cons_succ, List.getElem?_cons_zero]; rfl) rfl (by kernel_rfl) (by kernel_rfl) (by kernel_rfl) (fun _ _ _ h => h) rfl ?_ (by assumption) ?_
  rotate_left
  focus (intro w hSw; go_simp; (try with_reducible rfl); done)
  try simp only [List.setIfInBounds_toArray, List.set_cons_zero, List.set_cons_succ]
  refine take_at (i := 22) (d := 62) (v := ?_) (by simp only [List.getElem?_toArray, List.getElem?_cons_succ, List.getElem?_cons_zero]; rfl) rfl (by kernel_rfl) (by kernel_rfl) (by kernel_rfl) (fun _ _ _ h => h) rfl ?_ (by assumption) ?_
  rotate_left
  focus (intro w hSw; go_simp; (try with_reducible rfl); done)
  try simp only [List.setIfInBounds_toArray, List.set_cons_zero, List.set_cons_succ]
  refine take_at (i := 23) (d := 63) (v := ?_) (by simp only [List.getElem?_toArray, List.getElem?_cons_succ, List.getElem?_cons_zero]; rfl) rfl (by kernel_rfl) (by kernel_rfl) (by kernel_rfl) (fun _ _ _ h => h) rfl ?_ (by assumption) ?_
  rotate_left
  focus (intro w hSw; go_simp; (try with_reducible rfl); done)
  try simp only [List.setIfInBounds_toArray, List.set_cons_zero, List.set_cons_succ]
  refine call_at (i := 18) (d := 58) (by simp only [List.getElem?_toArray, List.getElem?_cons_succ, List.getElem?_cons_zero]; rfl) rfl (by kernel_rfl) rfl (fun K hK => ?_)
  go_simp
  have hc := comb_any z2 k j1 j2 j3 j4 x c hxb.1 hxb.2 hc0.1 hc0.2
  rw [HY.out] at hc
  refine hc.mono ?_
  clear hc
  rintro e z3 ⟨rfl, hz⟩
  have hS3 : Kept v z3 := hS2.below q2 hz
  have q3 : v.heap.size ≤ z3.heap.size := Nat.le_trans q2 hz.size
  have B3 := hide (B2.out.trans (hz.mono q2))
  clear hz
  go_wp2_with fail
  refine hK.out _ _ hS3 (fun hSn => ?_)
  clear hK K
  try simp only [List.setIfInBounds_toArray, List.set_cons_zero, List.set_cons_succ]
  refine call_at (i := 24) (d := 64) (by simp only [List.getElem?_toArray, List.getElem?_cons_succ, List.getElem?_cons_zero]; rfl) rfl (by kernel_rfl) rfl (fun K hK => ?_)
  go_simp
  have hc := comb_any z3 k j1 j2 j3 j4 b c hb.1 hb.2 hc0.1 hc0.2
  rw [HZ.out] at hc
  refine hc.mono ?_
  clear hc
  rintro e z4 ⟨rfl, hz⟩
  have hS4 : Kept v z4 := hS3.below q3 hz
  have q4 : v.heap.size ≤ z4.heap.size := Nat.le_trans q3 hz.size
  have B4 := hide (B3.out.trans (hz.mono q3))
  clear hz
  go_wp2_with fail
  refine hK.out _ _ hS4 (fun hSn => ?_)
  clear hK K
  try simp only [List.setIfInBounds_toArray, List.set_cons_zero, List.set_cons_succ]
  refine call_at (i := 25) (d := 65) (by simp only [List.getElem?_toArray, List.getElem?_cons_succ, List.getElem?_cons_zero]; rfl) rfl (by kernel_rfl) rfl (fun K hK => ?_)
  go_simp
  have hc := comb_any z4 k j1 j2 j3 j4 a z ha.1 ha.2 hzb.1 hzb.2
  rw [HYA.out] at hc
  refine hc.mono ?_
  clear hc
  rintro e z5 ⟨rfl, hz⟩
  have hS5 : Kept v z5 := hS4.below q4 hz
  have q5 : v.heap.size ≤ z5.heap.size := Nat.le_trans q4 hz.size
  have B5 := hide (B4.out.trans (hz.mono q4))
  clear hz
  go_wp2_with fail
  refine hK.out _ _ hS5 (fun hSn => ?_)
  clear hK K
  try simp only [List.setIfInBounds_toArray, List.set_cons_zero, List.set_cons_succ]
  refine take_at (i := 26) (d := 66) (v := ?_) (by simp only [List.getElem?_toArray, List.getElem?_cons_succ, List.getElem?_cons_zero]; rfl) rfl (by kernel_rfl) (by kernel_rfl) (by kernel_rfl) (fun _ _ _ h => h) rfl ?_ (by assumption) ?_
  rotate_left
  focus (intro w hSw; go_simp; (try with_reducible rfl); done)
  try simp only [List.setIfInBounds_toArray, List.set_cons_zero, List.set_cons_succ]
  refine take_at (i := 27) (d := 67) (v := ?_) (by simp only [List.getElem?_toArray, List.getElem?_cons_succ, List.getElem?_cons_zero]; rfl) rfl (by kernel_rfl) (by kernel_rfl) (by kernel_rfl) (fun _ _ _ h => h) rfl ?_ (by assumption) ?_
  rotate_left
  focus (intro w hSw; go_simp; (try with_reducible rfl); done)
  try simp only [List.setIfInBounds_toArray, List.set_cons_zero, List.set_cons_succ]
  refine wpAnyH_done (by kernel_rfl) ?_ _
  clear hS0 hS1 hS2 hS3 hS4 hS5 hSn c0 c1 c2 c3 c4
  have M5 := hide ((B5.out.block _ l1).trans MV.out)
  have HB5 := hide (hbv.out.trans (B5.out.mono (by omega)))
  have l5 : w.heap.size < z5.heap.size := by omega
  clear B1 B2 B3 B4 B5 q1 q2 q3 q4
  have N0 := M5.out
  have c0 : z5.cell? ⟨w.heap.size, 0, none⟩ = some (.int .u8 k) := cell_of_row _ _ 0 _ _ _ N0
  have c1 : z5.cell? ⟨w.heap.size, 1, none⟩ = some (.int .i64 j1) := cell_of_row _ _ 1 _ _ _ N0
  have c2 : z5.cell? ⟨w.heap.size, 2, none⟩ = some (.int .i64 j2) := cell_of_row _ _ 2 _ _ _ N0
  have c3 : z5.cell? ⟨w.heap.size, 3, none⟩ = some (.int .i64 j3) := cell_of_row _ _ 3 _ _ _ N0
  have c4 : z5.cell? ⟨w.heap.size, 4, none⟩ = some (.int .i64 j4) := cell_of_row _ _ 4 _ _ _ N0
  clear N0
  obtain ⟨r, hr⟩ : ∃ r, ((z5.alloc (.cells #[.int .i64 a, .int .i64 b] 48)).alloc (.cells #[.int .i64 b, .int .i64 c] 48)).alloc (.cells #[.int .i64 c, .int .i64 a] 48) = r := ⟨_, rfl⟩
  have hzr : z5.heap.size + 1 + 1 < r.heap.size := by rw [← hr]; simp
  have hbr := hide (show Below z5.heap.size z5 r by rw [← hr]; exact (((Below.refl _ _).alloc (Nat.le_refl _) _).alloc (by simp) _).alloc (by simp; omega) _)
  have T0 := hide (show r.heap[z5.heap.size]? = some (Obj.cells #[.int .i64 a, .int .i64 b] 48) by rw [← hr]; exact heap_alloc_keep (heap_alloc_keep ((by have h := heap_alloc_last z5 (.cells #[.int .i64 a, .int .i64 b] 48); simpa using h))))
  have T1 := hide (show r.heap[z5.heap.size + 1]? = some (Obj.cells #[.int .i64 b, .int .i64 c] 48) by rw [← hr]; exact heap_alloc_keep ((by have h := heap_alloc_last (z5.alloc (.cells #[.int .i64 a, .int .i64 b] 48)) (.cells #[.int .i64 b, .int .i64 c] 48); simpa using h)))
  have T2 := hide (show r.heap[z5.heap.size + 1 + 1]? = some (Obj.cells #[.int .i64 c, .int .i64 a] 48) by rw [← hr]; exact (by have h := heap_alloc_last ((z5.alloc (.cells #[.int .i64 a, .int .i64 b] 48)).alloc (.cells #[.int .i64 b, .int .i64 c] 48)) (.cells #[.int .i64 c, .int .i64 a] 48); simpa using h))
  have HR := hide hr
  clear hr
  have MR := hide ((hbr.out.block _ l5).trans M5.out)
  clear c0 c1 c2 c3 c4
  have N0 := MR.out
  have c0 : r.cell? ⟨w.heap.size, 0, none⟩ = some (.int .u8 k) := cell_of_row _ _ 0 _ _ _ N0
  have c1 : r.cell? ⟨w.heap.size, 1, none⟩ = some (.int .i64 j1) := cell_of_row _ _ 1 _ _ _ N0
  have c2 : r.cell? ⟨w.heap.size, 2, none⟩ = some (.int .i64 j2) := cell_of_row _ _ 2 _ _ _ N0
  have c3 : r.cell? ⟨w.heap.size, 3, none⟩ = some (.int .i64 j3) := cell_of_row _ _ 3 _ _ _ N0
  have c4 : r.cell? ⟨w.heap.size, 4, none⟩ = some (.int .i64 j4) := cell_of_row _ _ 4 _ _ _ N0
  clear N0
  have d00 : r.cell? ⟨z5.heap.size, 0, none⟩ = some (.int .i64 a) := cell_of_row _ _ 0 _ _ _ T0.out
  have d01 : r.cell? ⟨z5.heap.size, 1, none⟩ = some (.int .i64 b) := cell_of_row _ _ 1 _ _ _ T0.out
  have d10 : r.cell? ⟨z5.heap.size + 1, 0, none⟩ = some (.int .i64 b) := cell_of_row _ _ 0 _ _ _ T1.out
  have d11 : r.cell? ⟨z5.heap.size + 1, 1, none⟩ = some (.int .i64 c) := cell_of_row _ _ 1 _ _ _ T1.out
  have d20 : r.cell? ⟨z5.heap.size + 1 + 1, 0, none⟩ = some (.int .i64 c) := cell_of_row _ _ 0 _ _ _ T2.out
  have d21 : r.cell? ⟨z5.heap.size + 1 + 1, 1, none⟩ = some (.int .i64 a) := cell_of_row _ _ 1 _ _ _ T2.out
  go_upto_region 7 with fail
  rw [HR.out]
  go_wp2_with fail
  have hcl := join_any r k j1 j2 j3 j4 a b b c ha hb hb hc0
  rw [HP1.out, HP2.out] at hcl
  refine hcl.mono ?_
  clear hcl
  rintro e v7 ⟨rfl, hz⟩
  have s7 := hz.size
  have BZ := hide hz
  obtain ⟨s, hs⟩ : ∃ s, v7.alloc (.cells #[.int .i64 y1, .int .i64 y2] 48) = s := ⟨_, rfl⟩
  have hs7 : v7.heap.size < s.heap.size := by rw [← hs]; simp
  have BS := hide (show Below r.heap.size r s by rw [← hs]; exact BZ.out.alloc s7 _)
  have T3 := hide (show s.heap[v7.heap.size]? = some (.cells #[.int .i64 y1, .int .i64 y2] 48) by rw [← hs]; exact heap_alloc_last _ _)
  have HSS := hide hs
  clear hs hz
  clear c0 c1 c2 c3 c4 d00 d01 d10 d11 d20 d21
  go_upto_region 8 with fail
  rw [HSS.out]
  have N0 := (BS.out.block _ (by have := hbr.out.size; omega)).trans MR.out
  have c0 : s.cell? ⟨w.heap.size, 0, none⟩ = some (.int .u8 k) := cell_of_row _ _ 0 _ _ _ N0
  have c1 : s.cell? ⟨w.heap.size, 1, none⟩ = some (.int .i64 j1) := cell_of_row _ _ 1 _ _ _ N0
  have c2 : s.cell? ⟨w.heap.size, 2, none⟩ = some (.int .i64 j2) := cell_of_row _ _ 2 _ _ _ N0
  have c3 : s.cell? ⟨w.heap.size, 3, none⟩ = some (.int .i64 j3) := cell_of_row _ _ 3 _ _ _ N0
  have c4 : s.cell? ⟨w.heap.size, 4, none⟩ = some (.int .i64 j4) := cell_of_row _ _ 4 _ _ _ N0
  clear N0
  have d00 : s.cell? ⟨z5.heap.size, 0, none⟩ = some (.int .i64 a) := cell_of_row _ _ 0 _ _ _ ((BS.out.block _ (by omega)).trans T0.out)
  have d01 : s.cell? ⟨z5.heap.size, 1, none⟩ = some (.int .i64 b) := cell_of_row _ _ 1 _ _ _ ((BS.out.block _ (by omega)).trans T0.out)
  have d10 : s.cell? ⟨z5.heap.size + 1, 0, none⟩ = some (.int .i64 b) := cell_of_row _ _ 0 _ _ _ ((BS.out.block _ (by omega)).trans T1.out)
  have d11 : s.cell? ⟨z5.heap.size + 1, 1, none⟩ = some (.int .i64 c) := cell_of_row _ _ 1 _ _ _ ((BS.out.block _ (by omega)).trans T1.out)
  have d20 : s.cell? ⟨z5.heap.size + 1 + 1, 0, none⟩ = some (.int .i64 c) := cell_of_row _ _ 0 _ _ _ ((BS.out.block _ (by omega)).trans T2.out)
  have d21 : s.cell? ⟨z5.heap.size + 1 + 1, 1, none⟩ = some (.int .i64 a) := cell_of_row _ _ 1 _ _ _ ((BS.out.block _ (by omega)).trans T2.out)
  have d30 : s.cell? ⟨v7.heap.size, 0, none⟩ = some (.int .i64 y1) := cell_of_row _ _ 0 _ _ _ T3.out
  have d31 : s.cell? ⟨v7.heap.size, 1, none⟩ = some (.int .i64 y2) := cell_of_row _ _ 1 _ _ _ T3.out
  have k0 : w.heap.size < s.heap.size := by have := hbr.out.size; omega
  have k1 : z5.heap.size < s.heap.size := by omega
  have k2 : z5.heap.size + 1 < s.heap.size := by omega
  have k3 : z5.heap.size + 1 + 1 < s.heap.size := by omega
  have HB8 := hide (HB5.out.trans ((hbr.out.trans (BS.out.mono (by omega))).mono (by omega)))
  clear hzr s7 l5 l1 l0 q5
  refine wp_region_held_drew (S := Kept s) (by kernel_rfl) (Kept.drew s) (fun hS0 => ?_)
  refine take_at (i := 0) (d := 81) (v := ?_) (by simp only [List.getElem?_toArray, List.getElem?_cons_succ, List.getElem?_cons_zero]; rfl) rfl (by kernel_rfl) (by kernel_rfl) (by kernel_rfl) (fun _ _ _ h => h) rfl ?_ (by assumption) ?_
  rotate_left
  focus (intro w hSw; go_simp; (try with_reducible rfl); done)
  try simp only [List.setIfInBounds_toArray, List.set_cons_zero, List.set_cons_succ]
  refine take_at (i := 1) (d := 82) (v := ?_) (by simp only [List.getElem?_toArray, List.getElem?_cons_succ, List.getElem?_cons_zero]; rfl) rfl (by kernel_rfl) (by kernel_rfl) (by kernel_rfl) (fun _ _ _ h => h) rfl ?_ (by assumption) ?_
  rotate_left
  focus (intro w hSw; go_simp; (try with_reducible rfl); done)
  try simp only [List.setIfInBounds_toArray, List.set_cons_zero, List.set_cons_succ]
  refine take_at (i := 2) (d := 83) (v := ?_) (by simp only [List.getElem?_toArray, List.getElem?_cons_succ, List.getElem?_cons_zero]; rfl) rfl (by kernel_rfl) (by kernel_rfl) (by kernel_rfl) (fun _ _ _ h => h) rfl ?_ (by assumption) ?_
  rotate_left
  focus (intro w hSw; go_simp; (try with_reducible rfl); done)
  try simp only [List.setIfInBounds_toArray, List.set_cons_zero, List.set_cons_succ]
  refine take_at (i := 3) (d := 84) (v := ?_) (by simp only [List.getElem?_toArray, List.getElem?_cons_succ, List.getElem?_cons_zero]; rfl) rfl (by kernel_rfl) (by kernel_rfl) (by kernel_rfl) (fun _ _ _ h => h) rfl ?_ (by assumption) ?_
  rotate_left
  focus (intro w hSw; go_simp; (try with_reducible rfl); done)
  try simp only [List.setIfInBounds_toArray, List.set_cons_zero, List.set_cons_succ]
  refine call_at (i := 4) (d := 85) (by simp only [List.getElem?_toArray, List.getElem?_cons_succ, List.getElem?_cons_zero]; rfl) rfl (by kernel_rfl) rfl (fun K hK => ?_)
  go_simp
  have hc := join_any s.drew k j1 j2 j3 j4 b c a b hb hc0 ha hb
  rw [HQ1.out, HQ2.out] at hc
  refine hc.mono ?_
  clear hc
  rintro e z1 ⟨rfl, hz⟩
  have hS1 : Kept s z1 := hS0.below (by simp) hz
  have q1 : s.heap.size ≤ z1.heap.size := by have := hz.size; simpa using this
  have B1 := hide ((below_dr0 s.heap.size s).trans (hz.mono (Nat.le_refl _)))
  clear hz
  go_wp2_with fail
  refine hK.out _ _ hS1 (fun hSn => ?_)
  clear hK K
  try simp only [List.setIfInBounds_toArray, List.set_cons_zero, List.set_cons_succ]
  refine take_at (i := 5) (d := 86) (v := ?_) (by simp only [List.getElem?_toArray, List.getElem?_cons_succ, List.getElem?_cons_zero]; rfl) rfl (by kernel_rfl) (by kernel_rfl) (by kernel_rfl) (fun _ _ _ h => h) rfl ?_ (by assumption) ?_
  rotate_left
  focus (intro w hSw; go_simp; (try with_reducible rfl); done)
  try simp only [List.setIfInBounds_toArray, List.set_cons_zero, List.set_cons_succ]
  refine take_at (i := 6) (d := 87) (v := ?_) (by simp only [List.getElem?_toArray, List.getElem?_cons_succ, List.getElem?_cons_zero]; rfl) rfl (by kernel_rfl) (by kernel_rfl) (by kernel_rfl) (fun _ _ _ h => h) rfl ?_ (by assumption) ?_
  rotate_left
  focus (intro w hSw; go_simp; (try with_reducible rfl); done)
  try simp only [List.setIfInBounds_toArray, List.set_cons_zero, List.set_cons_succ]
  refine take_at (i := 7) (d := 88) (v := ?_) (by simp only [List.getElem?_toArray, List.getElem?_cons_succ, List.getElem?_cons_zero]; rfl) rfl (by kernel_rfl) (by kernel_rfl) (by kernel_rfl) (fun _ _ _ h => h) rfl ?_ (by assumption) ?_
  rotate_left
  focus (intro w hSw; go_simp; (try with_reducible rfl); done)
  try simp only [List.setIfInBounds_toArray, List.set_cons_zero, List.set_cons_succ]
  refine take_at (i := 8) (d := 89) (v := ?_) (by simp only [List.getElem?_toArray, List.getElem?_cons_succ, List.getElem?_cons_zero]; rfl) rfl (by kernel_rfl) (by kernel_rfl) (by kernel_rfl) (fun _ _ _ h => h) rfl ?_ (by assumption) ?_
  rotate_left
  focus (intro w hSw; go_simp; (try with_reducible rfl); done)
  try simp only [List.setIfInBounds_toArray, List.set_cons_zero, List.set_cons_succ]
  refine take_at (i := 9) (d := 90) (v := ?_) (by simp only [List.getElem?_toArray, List.getElem?_cons_succ, List.getElem?_cons_zero]; rfl) rfl (by kernel_rfl) (by kernel_rfl) (by kernel_rfl) (fun _ _ _ h => h) rfl ?_ (by assumption) ?_
  rotate_left
  focus (intro w hSw; go_simp; (try with_reducible rfl); done)
  try simp only [List.setIfInBounds_toArray, List.set_cons_zero, List.set_cons_succ]
  refine take_at (i := 11) (d := 92) (v := ?_) (by simp only [List.getElem?_toArray, List.getElem?_cons_succ, List.getElem?_cons_zero]; rfl) rfl (by kernel_rfl) (by kernel_rfl) (by kernel_rfl) (fun _ _ _ h => h) rfl ?_ (by assumption) ?_
  rotate_left
  focus (intro w hSw; go_simp; (try with_reducible rfl); done)
  try simp only [List.setIfInBounds_toArray, List.set_cons_zero, List.set_cons_succ]
  refine take_at (i := 12) (d := 93) (v := ?_) (by simp only [List.getElem?_toArray, List.getElem?_cons_succ, List.getElem?_cons_zero]; rfl) rfl (by kernel_rfl) (by kernel_rfl) (by kernel_rfl) (fun _ _ _ h => h) rfl ?_ (by assumption) ?_
  rotate_left
  focus (intro w hSw; go_simp; (try with_reducible rfl); done)
  try simp only [List.setIfInBounds_toArray, List.set_cons_zero, List.set_cons_succ]
  refine take_at (i := 13) (d := 94) (v := ?_) (by simp only [List.getElem?_toArray, List.getElem?_cons_succ, List.getElem?_cons_zero]; rfl) rfl (by kernel_rfl) (by kernel_rfl) (by kernel_rfl) (fun _ _ _ h => h) rfl ?_ (by assumption) ?_
  rotate_left
  focus (intro w hSw; go_simp; (try with_reducible rfl); done)
  try simp only [List.setIfInBounds_toArray, List.set_cons_zero, List.set_cons_succ]
  refine take_at (i := 14) (d := 95) (v := ?_) (by simp only [List.getElem?_toArray, List.getElem?_cons_succ, List.getElem?_cons_zero]; rfl) rfl (by kernel_rfl) (by kernel_rfl) (by kernel_rfl) (fun _ _ _ h => h) rfl ?_ (by assumption) ?_
  rotate_left
  focus (intro w hSw; go_simp; (try with_reducible rfl); done)
  try simp only [List.setIfInBounds_toArray, List.set_cons_zero, List.set_cons_succ]
  refine take_at (i := 15) (d := 96) (v := ?_) (by simp only [List.getElem?_toArray, List.getElem?_cons_succ, List.getElem?_cons_zero]; rfl) rfl (by kernel_rfl) (by kernel_rfl) (by kernel_rfl) (fun _ _ _ h => h) rfl ?_ (by assumption) ?_
  rotate_left
  focus (intro w hSw; go_simp; (try with_reducible rfl); done)
  try simp only [List.setIfInBounds_toArray, List.set_cons_zero, List.set_cons_succ]
  refine call_at (i := 10) (d := 91) (by simp only [List.getElem?_toArray, List.getElem?_cons_succ, List.getElem?_cons_zero]; rfl) rfl (by kernel_rfl) rfl (fun K hK => ?_)
  go_simp
  have hc := join_any z1 k j1 j2 j3 j4 y1 y2 c a hy1 hy2 hc0 ha
  rw [HE1.out, HE2.out] at hc
  refine hc.mono ?_
  clear hc
  rintro e z2 ⟨rfl, hz⟩
  have hS2 : Kept s z2 := hS1.below q1 hz
  have q2 : s.heap.size ≤ z2.heap.size := Nat.le_trans q1 hz.size
  have B2 := hide (B1.out.trans (hz.mono q1))
  clear hz
  go_wp2_with fail
  refine hK.out _ _ hS2 (fun hSn => ?_)
  clear hK K
  try simp only [List.setIfInBounds_toArray, List.set_cons_zero, List.set_cons_succ]
  refine call_at (i := 16) (d := 97) (by simp only [List.getElem?_toArray, List.getElem?_cons_succ, List.getElem?_cons_zero]; rfl) rfl (by kernel_rfl) rfl (fun K hK => ?_)
  go_simp
  have hc := join_any z2 k j1 j2 j3 j4 b c c a hb hc0 hc0 ha
  rw [HT1.out, HT2.out] at hc
  refine hc.mono ?_
  clear hc
  rintro e z3 ⟨rfl, hz⟩
  have hS3 : Kept s z3 := hS2.below q2 hz
  have q3 : s.heap.size ≤ z3.heap.size := Nat.le_trans q2 hz.size
  have B3 := hide (B2.out.trans (hz.mono q2))
  clear hz
  go_wp2_with fail
  refine hK.out _ _ hS3 (fun hSn => ?_)
  clear hK K
  try simp only [List.setIfInBounds_toArray, List.set_cons_zero, List.set_cons_succ]
  refine call_at (i := 17) (d := 98) (by simp only [List.getElem?_toArray, List.getElem?_cons_succ, List.getElem?_cons_zero]; rfl) rfl (by kernel_rfl) rfl (fun K hK => ?_)
  go_simp
  have hc := join_any z3 k j1 j2 j3 j4 a b t1 t2 ha hb ht1 ht2
  rw [HD1.out, HD2.out] at hc
  refine hc.mono ?_
  clear hc
  rintro e z4 ⟨rfl, hz⟩
  have hS4 : Kept s z4 := hS3.below q3 hz
  have q4 : s.heap.size ≤ z4.heap.size := Nat.le_trans q3 hz.size
  have B4 := hide (B3.out.trans (hz.mono q3))
  clear hz
  go_wp2_with fail
  refine hK.out _ _ hS4 (fun hSn => ?_)
  clear hK K
  try simp only [List.setIfInBounds_toArray, List.set_cons_zero, List.set_cons_succ]
  refine take_at (i := 18) (d := 99) (v := ?_) (by simp only [List.getElem?_toArray, List.getElem?_cons_succ, List.getElem?_cons_zero]; rfl) rfl (by kernel_rfl) (by kernel_rfl) (by kernel_rfl) (fun _ _ _ h => h) rfl ?_ (by assumption) ?_
  rotate_left
  focus (intro w hSw; go_simp; (try with_reducible rfl); done)
  try simp only [List.setIfInBounds_toArray, List.set_cons_zero, List.set_cons_succ]
  refine take_at (i := 19) (d := 100) (v := ?_) (by simp only [List.getElem?_toArray, List.getElem?_cons_succ, List.getElem?_cons_zero]; rfl) rfl (by kernel_rfl) (by kernel_rfl) (by kernel_rfl) (fun _ _ _ h => h) rfl ?_ (by assumption) ?_
  rotate_left
  focus (intro w hSw; go_simp; (try with_reducible rfl); done)
  try simp only [List.setIfInBounds_toArray, List.set_cons_zero, List.set_cons_succ]
  refine take_at (i := 20) (d := 101) (v := ?_) (by simp only [List.getElem?_toArray, List.getElem?_cons_succ, List.getElem?_cons_zero]; rfl) rfl (by kernel_rfl) (by kernel_rfl) (by kernel_rfl) (fun _ _ _ h => h) rfl ?_ (by assumption) ?_
  rotate_left
  focus (intro w hSw; go_simp; (try with_reducible rfl); done)
  try simp only [List.setIfInBounds_toArray, List.set_cons_zero, List.set_cons_succ]
  refine call_at (i := 21) (d := 102) (by simp only [List.getElem?_toArray, List.getElem?_cons_succ, List.getElem?_cons_zero]; rfl) rfl (by kernel_rfl) rfl (fun K hK => ?_)
  go_simp
  have hc := works_any z4
  refine hc.mono ?_
  clear hc
  rintro e z5 ⟨rfl, hz⟩
  have hS5 : Kept s z5 := hS4.below q4 hz
  have q5 : s.heap.size ≤ z5.heap.size := Nat.le_trans q4 hz.size
  have B5 := hide (B4.out.trans (hz.mono q4))
  clear hz
  go_wp2_with fail
  refine hK.out _ _ hS5 (fun hSn => ?_)
  clear hK K
  try simp only [List.setIfInBounds_toArray, List.set_cons_zero, List.set_cons_succ]
  refine take_at (i := 22) (d := 103) (v := ?_) (by simp only [List.getElem?_toArray, List.getElem?_cons_succ, List.getElem?_cons_zero]; rfl) rfl (by kernel_rfl) (by kernel_rfl) (by kernel_rfl) (fun _ _ _ h => h) rfl ?_ (by assumption) ?_
  rotate_left
  focus (intro w hSw; go_simp; (try with_reducible rfl); done)
  try simp only [List.setIfInBounds_toArray, List.set_cons_zero, List.set_cons_succ]
  refine take_at (i := 23) (d := 8) (v := ?_) (by simp only [List.getElem?_toArray, List.getElem?_cons_succ, List.getElem?_cons_zero]; rfl) rfl (by kernel_rfl) (by kernel_rfl) (by kernel_rfl) (fun _ _ _ h => h) rfl ?_ (by assumption) ?_
  rotate_left
  focus (intro w hSw; go_simp; (try with_reducible rfl); done)
  try simp only [List.setIfInBounds_toArray, List.set_cons_zero, List.set_cons_succ]
  refine wpAnyH_done (by kernel_rfl) ?_ _
  have HF := hide (HB8.out.trans (B5.out.mono (by omega)))
  go_wp2
  go_ret
  exact ⟨rfl, HF.out⟩
theorem algosOrder_walk (w : World) (k j1 j2 j3 j4 : Int) (hk : 0 ≤ k ∧ k ≤ 255) (hj1 : i64B j1) (hj2 : i64B j2) (hj3 : i64B j3) (hj4 : i64B j4) (a : Int) (h1 : -9223372036854775808 ≤ a) (h2 : a ≤ 9223372036854775807) (b : Int) (h3 : -9223372036854775808 ≤ b) (h4 : b ≤ 9223372036854775807) (c : Int) (h5 : -9223372036854775808 ≤ c) (h6 : c ≤ 9223372036854775807) :
    Calls Try.prog 6 #[.agg #[.int .u8 k, .int .i64 j1, .int .i64 j2, .int .i64 j3, .int .i64 j4], .int .i64 a, .int .i64 b, .int .i64 c] w fun e w' => e = .returned (.bool true) ∧ Below w.heap.size w w' :=
  algosOrder_go w k j1 j2 j3 j4 a b c ⟨h1, h2⟩ ⟨h3, h4⟩ ⟨h5, h6⟩
end Go.Proofs.Ytihlhkbdgbkafaa

/- Compute: the program and the document. (printed by gen/acp.py) -/
import Derived.Test.YtihlhkbdgbkafaaAsw
import Derived.Test.YtihlhkbdgbkafaaTke
import Derived.Test.YtihlhkbdgbkafaaLtk
import Derived.Test.YtihlhkbdgbkafaaAtd
namespace Go.Proofs.Ytihlhkbdgbkafaa
open Go.RowKit
set_option linter.unusedVariables false
set_option linter.unusedSimpArgs false
theorem taker_labels (w : World) : (Instr.typeAssert (.iface 91 (.agg #[])) 61 74 false).run Try.prog w = .ok (.iface 91 (.agg #[])) w := by kernel_rfl
def gotF (has : Bool) (x : Int) : Int := if has = true then max x 0 else 0
theorem gotF_b (has : Bool) {x : Int} (h : x ≤ 9223372036854775807) : gotF has x ≤ 9223372036854775807 := by unfold gotF; split <;> omega
def compK (k V v : Int) (has : Bool) (x su d : Int) : Int × Bool := if k = 1 then (takeK V d (gotF has x) su, takeK V d (gotF has x) su != v) else if k = 2 then ltakeOf v has x else if k = 3 then takeOf v has x else (0, false)
set_option maxRecDepth 100000 in
set_option maxHeartbeats 4000000 in
theorem rkshare_any (w : World) (k j1 j2 j3 j4 V : Int) (has : Bool) (x su : Int) (bV : V ≤ 9223372036854775807) (bx : x ≤ 9223372036854775807) (bs : su ≤ 9223372036854775807) : Calls Try.prog 84 #[.agg #[], .agg #[.int .u8 k, .int .i64 j1, .int .i64 j2, .int .i64 j3, .int .i64 j4], .int .i64 V, .agg #[.bool has, .int .i64 x], .int .i64 su] w fun e w' => e = .returned (.int .i64 (takeK V j3 (gotF has x) su)) ∧ Below w.heap.size w w' := by
  have bg := gotF_b has bx
  cases has
  · obtain ⟨u, hu⟩ : ∃ u, (((w.alloc (.cells #[] 88)).alloc (.cells #[.int .u8 k, .int .i64 j1, .int .i64 j2, .int .i64 j3, .int .i64 j4] 26)).alloc (.cells #[.bool false, .int .i64 x] 36)) = u := ⟨_, rfl⟩
    have hbu := hide (show Below w.heap.size w u by rw [← hu]; exact (((Below.refl _ _).alloc (Nat.le_refl _) _).alloc (by simp) _).alloc (by simp; omega) _)
    have M1 : u.heap[w.heap.size + 1]? = some (Obj.cells #[.int .u8 k, .int .i64 j1, .int .i64 j2, .int .i64 j3, .int .i64 j4] 26) := by rw [← hu]; exact heap_alloc_keep ((by have h := heap_alloc_last (w.alloc (.cells #[] 88)) (.cells #[.int .u8 k, .int .i64 j1, .int .i64 j2, .int .i64 j3, .int .i64 j4] 26); simpa using h))
    have M2 : u.heap[w.heap.size + 1 + 1]? = some (Obj.cells #[.bool false, .int .i64 x] 36) := by rw [← hu]; exact (by have h := heap_alloc_last ((w.alloc (.cells #[] 88)).alloc (.cells #[.int .u8 k, .int .i64 j1, .int .i64 j2, .int .i64 j3, .int .i64 j4] 26)) (.cells #[.bool false, .int .i64 x] 36); simpa using h)
    have c3 : u.cell? ⟨w.heap.size + 1, 3, none⟩ = some (.int .i64 j3) := cell_of_row _ _ 3 _ _ _ M1
    have x0 : u.cell? ⟨w.heap.size + 1 + 1, 0, none⟩ = some (.bool false) := cell_of_row _ _ 0 _ _ _ M2
    have x1 : u.cell? ⟨w.heap.size + 1 + 1, 1, none⟩ = some (.int .i64 x) := cell_of_row _ _ 1 _ _ _ M2
    have HU := hide hu
    clear hu M1 M2
    rw [show gotF false x = 0 from rfl] at bg ⊢
    go_enter Try.func84, Try.ntmps84
    go_upto_region 1 with fail
    rw [HU.out]
    go_wp2_with fail
    refine (rktake_any _ V j3 0 su bV bg bs).mono ?_
    rintro e wz ⟨rfl, rfl⟩
    go_wp2
    go_ret
    exact ⟨rfl, hbu.out⟩
  · obtain ⟨u, hu⟩ : ∃ u, (((w.alloc (.cells #[] 88)).alloc (.cells #[.int .u8 k, .int .i64 j1, .int .i64 j2, .int .i64 j3, .int .i64 j4] 26)).alloc (.cells #[.bool true, .int .i64 x] 36)) = u := ⟨_, rfl⟩
    have hbu := hide (show Below w.heap.size w u by rw [← hu]; exact (((Below.refl _ _).alloc (Nat.le_refl _) _).alloc (by simp) _).alloc (by simp; omega) _)
    have M1 : u.heap[w.heap.size + 1]? = some (Obj.cells #[.int .u8 k, .int .i64 j1, .int .i64 j2, .int .i64 j3, .int .i64 j4] 26) := by rw [← hu]; exact heap_alloc_keep ((by have h := heap_alloc_last (w.alloc (.cells #[] 88)) (.cells #[.int .u8 k, .int .i64 j1, .int .i64 j2, .int .i64 j3, .int .i64 j4] 26); simpa using h))
    have M2 : u.heap[w.heap.size + 1 + 1]? = some (Obj.cells #[.bool true, .int .i64 x] 36) := by rw [← hu]; exact (by have h := heap_alloc_last ((w.alloc (.cells #[] 88)).alloc (.cells #[.int .u8 k, .int .i64 j1, .int .i64 j2, .int .i64 j3, .int .i64 j4] 26)) (.cells #[.bool true, .int .i64 x] 36); simpa using h)
    have c3 : u.cell? ⟨w.heap.size + 1, 3, none⟩ = some (.int .i64 j3) := cell_of_row _ _ 3 _ _ _ M1
    have x0 : u.cell? ⟨w.heap.size + 1 + 1, 0, none⟩ = some (.bool true) := cell_of_row _ _ 0 _ _ _ M2
    have x1 : u.cell? ⟨w.heap.size + 1 + 1, 1, none⟩ = some (.int .i64 x) := cell_of_row _ _ 1 _ _ _ M2
    have HU := hide hu
    clear hu M1 M2
    rw [show gotF true x = (max x 0) from rfl] at bg ⊢
    go_enter Try.func84, Try.ntmps84
    go_upto_region 1 with fail
    rw [HU.out]
    go_wp2_with fail
    refine (rktake_any _ V j3 (max x 0) su bV bg bs).mono ?_
    rintro e wz ⟨rfl, rfl⟩
    go_wp2
    go_ret
    exact ⟨rfl, hbu.out⟩
set_option maxRecDepth 100000 in
set_option maxHeartbeats 4000000 in
theorem lbtake_any (w : World) (v : Int) (has : Bool) (x : Int) : Calls Try.prog 97 #[.agg #[], .int .i64 v, .agg #[.bool has, .int .i64 x]] w fun e w' => e = .returned (.tuple #[.int .i64 (ltakeOf v has x).1, .bool (ltakeOf v has x).2]) ∧ Below w.heap.size w w' := by
  have hbu := hide (show Below w.heap.size w ((w.alloc (.cells #[] 91)).alloc (.cells #[.bool has, .int .i64 x] 36)) from ((Below.refl _ _).alloc (Nat.le_refl _) _).alloc (by simp) _)
  go_enter Try.func97, Try.ntmps97
  go_wp2_with fail
  refine (ltake_any _ v has x).mono ?_
  rintro e w1 ⟨rfl, hb⟩
  have HB := hide hb
  clear hb
  go_wp2
  exact bodyPost_ret (by simp [results, Try.results97, go_sem]; try rfl) rfl ⟨rfl, hbu.out.trans (HB.out.mono (by simp; omega))⟩
set_option maxRecDepth 100000 in
set_option maxHeartbeats 4000000 in
theorem acomp1_any (w : World) (j1 j2 j3 j4 V v : Int) (has : Bool) (x su : Int) (bV : V ≤ 9223372036854775807) (bx : x ≤ 9223372036854775807) (bs : su ≤ 9223372036854775807) : Calls Try.prog 16 #[.agg #[.int .u8 1, .int .i64 j1, .int .i64 j2, .int .i64 j3, .int .i64 j4], .int .i64 V, .int .i64 v, .agg #[.bool has, .int .i64 x], .int .i64 su] w fun e w' => e = .returned (.tuple #[.int .i64 (takeK V j3 (gotF has x) su), .bool (takeK V j3 (gotF has x) su != v)]) ∧ Below w.heap.size w w' := by
  have ts := sharer_ranks
  obtain ⟨u, hu⟩ : ∃ u, (w.alloc (.cells #[.int .u8 1, .int .i64 j1, .int .i64 j2, .int .i64 j3, .int .i64 j4] 26)).alloc (.cells #[.bool has, .int .i64 x] 36) = u := ⟨_, rfl⟩
  have hzu : w.heap.size + 1 < u.heap.size := by rw [← hu]; simp
  have hbu := hide (show Below w.heap.size w u by rw [← hu]; exact ((Below.refl _ _).alloc (Nat.le_refl _) _).alloc (by simp) _)
  have M1 := hide (show u.heap[w.heap.size + 1]? = some (.cells #[.bool has, .int .i64 x] 36) by rw [← hu]; have h := heap_alloc_last (w.alloc (.cells #[.int .u8 1, .int .i64 j1, .int .i64 j2, .int .i64 j3, .int .i64 j4] 26)) (.cells #[.bool has, .int .i64 x] 36); simpa using h)
  have M0 : u.heap[w.heap.size]? = some (.cells #[.int .u8 1, .int .i64 j1, .int .i64 j2, .int .i64 j3, .int .i64 j4] 26) := by rw [← hu]; exact heap_alloc_keep (heap_alloc_last _ _)
  have M0h := hide M0
  have c0 : u.cell? ⟨w.heap.size, 0, none⟩ = some (.int .u8 1) := cell_of_row _ _ 0 _ _ _ M0
  have c1 : u.cell? ⟨w.heap.size, 1, none⟩ = some (.int .i64 j1) := cell_of_row _ _ 1 _ _ _ M0
  have c2 : u.cell? ⟨w.heap.size, 2, none⟩ = some (.int .i64 j2) := cell_of_row _ _ 2 _ _ _ M0
  have c3 : u.cell? ⟨w.heap.size, 3, none⟩ = some (.int .i64 j3) := cell_of_row _ _ 3 _ _ _ M0
  have c4 : u.cell? ⟨w.heap.size, 4, none⟩ = some (.int .i64 j4) := cell_of_row _ _ 4 _ _ _ M0
  clear M0
  have HU := hide hu
  clear hu
  go_enter Try.func16, Try.ntmps16
  go_wp2_with fail
  rw [HU.out]
  refine (of1 _ j1 j2 j3 j4).mono ?_
  rintro e ws ⟨rfl, hb⟩
  have HB := hide hb
  clear c0 c1 c2 c3 c4
  have N1 := (hb.block _ hzu).trans M1.out
  have N0 := (hb.block _ (by omega)).trans M0h.out
  have x0 : ws.cell? ⟨w.heap.size + 1, 0, none⟩ = some (.bool has) := cell_of_row _ _ 0 _ _ _ N1
  have x1 : ws.cell? ⟨w.heap.size + 1, 1, none⟩ = some (.int .i64 x) := cell_of_row _ _ 1 _ _ _ N1
  have c0 : ws.cell? ⟨w.heap.size, 0, none⟩ = some (.int .u8 1) := cell_of_row _ _ 0 _ _ _ N0
  have c1 : ws.cell? ⟨w.heap.size, 1, none⟩ = some (.int .i64 j1) := cell_of_row _ _ 1 _ _ _ N0
  have c2 : ws.cell? ⟨w.heap.size, 2, none⟩ = some (.int .i64 j2) := cell_of_row _ _ 2 _ _ _ N0
  have c3 : ws.cell? ⟨w.heap.size, 3, none⟩ = some (.int .i64 j3) := cell_of_row _ _ 3 _ _ _ N0
  have c4 : ws.cell? ⟨w.heap.size, 4, none⟩ = some (.int .i64 j4) := cell_of_row _ _ 4 _ _ _ N0
  clear N1 N0
  have lw : w.heap.size + 1 < ws.heap.size := Nat.lt_of_lt_of_le hzu hb.size
  clear hb
  go_wp2_with fail
  refine (rkshare_any _ 1 j1 j2 j3 j4 V has x su bV bx bs).mono ?_
  rintro e w2 ⟨rfl, hb⟩
  have HB2 := hide hb
  clear hb c0 c1 c2 c3 c4 x0 x1
  go_wp2
  all_goals
    exact bodyPost_ret (by simp [results, Try.results16, go_sem]; try rfl) rfl ⟨rfl, hbu.out.trans ((HB.out.trans (HB2.out.mono HB.out.size)).mono (by omega))⟩
set_option maxRecDepth 100000 in
set_option maxHeartbeats 4000000 in
theorem acomp2_any (w : World) (j1 j2 j3 j4 V v : Int) (has : Bool) (x su : Int) : Calls Try.prog 16 #[.agg #[.int .u8 2, .int .i64 j1, .int .i64 j2, .int .i64 j3, .int .i64 j4], .int .i64 V, .int .i64 v, .agg #[.bool has, .int .i64 x], .int .i64 su] w fun e w' => e = .returned (.tuple #[.int .i64 (ltakeOf v has x).1, .bool (ltakeOf v has x).2]) ∧ Below w.heap.size w w' := by
  have ta := taker_labels
  have ts := sharer_labels
  obtain ⟨u, hu⟩ : ∃ u, (w.alloc (.cells #[.int .u8 2, .int .i64 j1, .int .i64 j2, .int .i64 j3, .int .i64 j4] 26)).alloc (.cells #[.bool has, .int .i64 x] 36) = u := ⟨_, rfl⟩
  have hzu : w.heap.size + 1 < u.heap.size := by rw [← hu]; simp
  have hbu := hide (show Below w.heap.size w u by rw [← hu]; exact ((Below.refl _ _).alloc (Nat.le_refl _) _).alloc (by simp) _)
  have M1 := hide (show u.heap[w.heap.size + 1]? = some (.cells #[.bool has, .int .i64 x] 36) by rw [← hu]; have h := heap_alloc_last (w.alloc (.cells #[.int .u8 2, .int .i64 j1, .int .i64 j2, .int .i64 j3, .int .i64 j4] 26)) (.cells #[.bool has, .int .i64 x] 36); simpa using h)
  have M0 : u.heap[w.heap.size]? = some (.cells #[.int .u8 2, .int .i64 j1, .int .i64 j2, .int .i64 j3, .int .i64 j4] 26) := by rw [← hu]; exact heap_alloc_keep (heap_alloc_last _ _)
  have M0h := hide M0
  have c0 : u.cell? ⟨w.heap.size, 0, none⟩ = some (.int .u8 2) := cell_of_row _ _ 0 _ _ _ M0
  have c1 : u.cell? ⟨w.heap.size, 1, none⟩ = some (.int .i64 j1) := cell_of_row _ _ 1 _ _ _ M0
  have c2 : u.cell? ⟨w.heap.size, 2, none⟩ = some (.int .i64 j2) := cell_of_row _ _ 2 _ _ _ M0
  have c3 : u.cell? ⟨w.heap.size, 3, none⟩ = some (.int .i64 j3) := cell_of_row _ _ 3 _ _ _ M0
  have c4 : u.cell? ⟨w.heap.size, 4, none⟩ = some (.int .i64 j4) := cell_of_row _ _ 4 _ _ _ M0
  clear M0
  have HU := hide hu
  clear hu
  go_enter Try.func16, Try.ntmps16
  go_wp2_with fail
  rw [HU.out]
  refine (of2 _ j1 j2 j3 j4).mono ?_
  rintro e ws ⟨rfl, hb⟩
  have HB := hide hb
  clear c0 c1 c2 c3 c4
  have N1 := (hb.block _ hzu).trans M1.out
  have N0 := (hb.block _ (by omega)).trans M0h.out
  have x0 : ws.cell? ⟨w.heap.size + 1, 0, none⟩ = some (.bool has) := cell_of_row _ _ 0 _ _ _ N1
  have x1 : ws.cell? ⟨w.heap.size + 1, 1, none⟩ = some (.int .i64 x) := cell_of_row _ _ 1 _ _ _ N1
  have c0 : ws.cell? ⟨w.heap.size, 0, none⟩ = some (.int .u8 2) := cell_of_row _ _ 0 _ _ _ N0
  have c1 : ws.cell? ⟨w.heap.size, 1, none⟩ = some (.int .i64 j1) := cell_of_row _ _ 1 _ _ _ N0
  have c2 : ws.cell? ⟨w.heap.size, 2, none⟩ = some (.int .i64 j2) := cell_of_row _ _ 2 _ _ _ N0
  have c3 : ws.cell? ⟨w.heap.size, 3, none⟩ = some (.int .i64 j3) := cell_of_row _ _ 3 _ _ _ N0
  have c4 : ws.cell? ⟨w.heap.size, 4, none⟩ = some (.int .i64 j4) := cell_of_row _ _ 4 _ _ _ N0
  clear N1 N0
  have lw : w.heap.size + 1 < ws.heap.size := Nat.lt_of_lt_of_le hzu hb.size
  clear hb
  go_upto_region 8 with fail
  refine wp_region_held_drew (S := Kept ws) (by kernel_rfl) (Kept.drew ws) (fun hS0 => ?_)
  refine take_at (i := 0) (d := 36) (v := ?_) (by simp only [List.getElem?_toArray, List.getElem?_cons_succ, List.getElem?_cons_zero]; rfl) rfl (by kernel_rfl) (by kernel_rfl) (by kernel_rfl) (fun _ _ _ h => h) rfl ?_ (by assumption) ?_
  rotate_left
  focus (intro w hSw; go_simp; (try with_reducible rfl); done)
  try simp only [List.setIfInBounds_toArray, List.set_cons_zero, List.set_cons_succ]
  refine take_at (i := 1) (d := 37) (v := ?_) (by simp only [List.getElem?_toArray, List.getElem?_cons_succ, List.getElem?_cons_zero]; rfl) rfl (by kernel_rfl) (by kernel_rfl) (by kernel_rfl) (fun _ _ _ h => h) rfl ?_ (by assumption) ?_
  rotate_left
  focus (intro w hSw; have hh := ta w; go_simp; (try with_reducible rfl); done)
  try simp only [List.setIfInBounds_toArray, List.set_cons_zero, List.set_cons_succ]
  refine take_at (i := 2) (d := 38) (v := ?_) (by simp only [List.getElem?_toArray, List.getElem?_cons_succ, List.getElem?_cons_zero]; rfl) rfl (by kernel_rfl) (by kernel_rfl) (by kernel_rfl) (fun _ _ _ h => h) rfl ?_ (by assumption) ?_
  rotate_left
  focus (intro w hSw; go_simp; (try with_reducible rfl); done)
  try simp only [List.setIfInBounds_toArray, List.set_cons_zero, List.set_cons_succ]
  refine take_at (i := 3) (d := 39) (v := ?_) (by simp only [List.getElem?_toArray, List.getElem?_cons_succ, List.getElem?_cons_zero]; rfl) rfl (by kernel_rfl) (by kernel_rfl) (by kernel_rfl) (fun _ _ _ h => h) rfl ?_ (by assumption) ?_
  rotate_left
  focus (intro w hSw; go_simp; (try with_reducible rfl); done)
  try simp only [List.setIfInBounds_toArray, List.set_cons_zero, List.set_cons_succ]
  refine call_at (i := 4) (d := 40) (by simp only [List.getElem?_toArray, List.getElem?_cons_succ, List.getElem?_cons_zero]; rfl) rfl (by kernel_rfl) rfl (fun K hK => ?_)
  go_simp
  go_upon
  refine (lbtake_any _ v has x).mono ?_
  rintro e z1 ⟨rfl, k1⟩
  have hS1 : Kept ws z1 := hS0.below (by simp) k1
  have K1 := hide (below_dr k1)
  clear k1
  go_wp2_with fail
  refine hK.out _ _ hS1 (fun hSn => ?_)
  clear hK K
  try simp only [List.setIfInBounds_toArray, List.set_cons_zero, List.set_cons_succ]
  refine take_at (i := 5) (d := 41) (v := ?_) (by simp only [List.getElem?_toArray, List.getElem?_cons_succ, List.getElem?_cons_zero]; rfl) rfl (by kernel_rfl) (by kernel_rfl) (by kernel_rfl) (fun _ _ _ h => h) rfl ?_ (by assumption) ?_
  rotate_left
  focus (intro w hSw; go_simp; (try with_reducible rfl); done)
  try simp only [List.setIfInBounds_toArray, List.set_cons_zero, List.set_cons_succ]
  refine take_at (i := 6) (d := 42) (v := ?_) (by simp only [List.getElem?_toArray, List.getElem?_cons_succ, List.getElem?_cons_zero]; rfl) rfl (by kernel_rfl) (by kernel_rfl) (by kernel_rfl) (fun _ _ _ h => h) rfl ?_ (by assumption) ?_
  rotate_left
  focus (intro w hSw; go_simp; (try with_reducible rfl); done)
  try simp only [List.setIfInBounds_toArray, List.set_cons_zero, List.set_cons_succ]
  refine take_at (i := 7) (d := 10) (v := ?_) (by simp only [List.getElem?_toArray, List.getElem?_cons_succ, List.getElem?_cons_zero]; rfl) rfl (by kernel_rfl) (by kernel_rfl) (by kernel_rfl) (fun _ _ _ h => h) rfl ?_ (by assumption) ?_
  rotate_left
  focus (intro w hSw; go_simp; (try with_reducible rfl); done)
  try simp only [List.setIfInBounds_toArray, List.set_cons_zero, List.set_cons_succ]
  refine take_at (i := 8) (d := 11) (v := ?_) (by simp only [List.getElem?_toArray, List.getElem?_cons_succ, List.getElem?_cons_zero]; rfl) rfl (by kernel_rfl) (by kernel_rfl) (by kernel_rfl) (fun _ _ _ h => h) rfl ?_ (by assumption) ?_
  rotate_left
  focus (intro w hSw; go_simp; (try with_reducible rfl); done)
  try simp only [List.setIfInBounds_toArray, List.set_cons_zero, List.set_cons_succ]
  refine wpAnyH_done (by kernel_rfl) ?_ _
  go_wp2
  exact bodyPost_ret (by simp [results, Try.results16, go_sem]; try rfl) rfl ⟨rfl, hbu.out.trans ((HB.out.trans (K1.out.mono HB.out.size)).mono (by omega))⟩
set_option maxRecDepth 100000 in
set_option maxHeartbeats 4000000 in
theorem acomp0_any (w : World) (k : Int) (k1 : ¬ k = 1) (k2 : ¬ k = 2) (k3 : ¬ k = 3) (j1 j2 j3 j4 V v : Int) (has : Bool) (x su : Int) : Calls Try.prog 16 #[.agg #[.int .u8 k, .int .i64 j1, .int .i64 j2, .int .i64 j3, .int .i64 j4], .int .i64 V, .int .i64 v, .agg #[.bool has, .int .i64 x], .int .i64 su] w fun e w' => e = .returned (.tuple #[.int .i64 0, .bool false]) ∧ Below w.heap.size w w' := by
  have ts := sharer_nil
  obtain ⟨u, hu⟩ : ∃ u, (w.alloc (.cells #[.int .u8 k, .int .i64 j1, .int .i64 j2, .int .i64 j3, .int .i64 j4] 26)).alloc (.cells #[.bool has, .int .i64 x] 36) = u := ⟨_, rfl⟩
  have hzu : w.heap.size + 1 < u.heap.size := by rw [← hu]; simp
  have hbu := hide (show Below w.heap.size w u by rw [← hu]; exact ((Below.refl _ _).alloc (Nat.le_refl _) _).alloc (by simp) _)
  have M1 := hide (show u.heap[w.heap.size + 1]? = some (.cells #[.bool has, .int .i64 x] 36) by rw [← hu]; have h := heap_alloc_last (w.alloc (.cells #[.int .u8 k, .int .i64 j1, .int .i64 j2, .int .i64 j3, .int .i64 j4] 26)) (.cells #[.bool has, .int .i64 x] 36); simpa using h)
  have M0 : u.heap[w.heap.size]? = some (.cells #[.int .u8 k, .int .i64 j1, .int .i64 j2, .int .i64 j3, .int .i64 j4] 26) := by rw [← hu]; exact heap_alloc_keep (heap_alloc_last _ _)
  have M0h := hide M0
  have c0 : u.cell? ⟨w.heap.size, 0, none⟩ = some (.int .u8 k) := cell_of_row _ _ 0 _ _ _ M0
  have c1 : u.cell? ⟨w.heap.size, 1, none⟩ = some (.int .i64 j1) := cell_of_row _ _ 1 _ _ _ M0
  have c2 : u.cell? ⟨w.heap.size, 2, none⟩ = some (.int .i64 j2) := cell_of_row _ _ 2 _ _ _ M0
  have c3 : u.cell? ⟨w.heap.size, 3, none⟩ = some (.int .i64 j3) := cell_of_row _ _ 3 _ _ _ M0
  have c4 : u.cell? ⟨w.heap.size, 4, none⟩ = some (.int .i64 j4) := cell_of_row _ _ 4 _ _ _ M0
  clear M0
  have HU := hide hu
  clear hu
  go_enter Try.func16, Try.ntmps16
  go_wp2_with fail
  rw [HU.out]
  refine (of0 _ k k1 k2 k3 j1 j2 j3 j4).mono ?_
  rintro e ws ⟨rfl, hb⟩
  have HB := hide hb
  clear c0 c1 c2 c3 c4
  have N1 := (hb.block _ hzu).trans M1.out
  have N0 := (hb.block _ (by omega)).trans M0h.out
  have x0 : ws.cell? ⟨w.heap.size + 1, 0, none⟩ = some (.bool has) := cell_of_row _ _ 0 _ _ _ N1
  have x1 : ws.cell? ⟨w.heap.size + 1, 1, none⟩ = some (.int .i64 x) := cell_of_row _ _ 1 _ _ _ N1
  have c0 : ws.cell? ⟨w.heap.size, 0, none⟩ = some (.int .u8 k) := cell_of_row _ _ 0 _ _ _ N0
  have c1 : ws.cell? ⟨w.heap.size, 1, none⟩ = some (.int .i64 j1) := cell_of_row _ _ 1 _ _ _ N0
  have c2 : ws.cell? ⟨w.heap.size, 2, none⟩ = some (.int .i64 j2) := cell_of_row _ _ 2 _ _ _ N0
  have c3 : ws.cell? ⟨w.heap.size, 3, none⟩ = some (.int .i64 j3) := cell_of_row _ _ 3 _ _ _ N0
  have c4 : ws.cell? ⟨w.heap.size, 4, none⟩ = some (.int .i64 j4) := cell_of_row _ _ 4 _ _ _ N0
  clear N1 N0
  have lw : w.heap.size + 1 < ws.heap.size := Nat.lt_of_lt_of_le hzu hb.size
  clear hb
  go_wp2
  exact bodyPost_ret (by simp [results, Try.results16, go_sem]; try rfl) rfl ⟨rfl, hbu.out.trans (HB.out.mono (by omega))⟩
set_option maxRecDepth 100000 in
set_option maxHeartbeats 4000000 in
theorem acomp_any (w : World) (k : Int) (j1 j2 j3 j4 V v : Int) (has : Bool) (x su : Int) (bV : V ≤ 9223372036854775807) (bx : x ≤ 9223372036854775807) (bs : su ≤ 9223372036854775807) : Calls Try.prog 16 #[.agg #[.int .u8 k, .int .i64 j1, .int .i64 j2, .int .i64 j3, .int .i64 j4], .int .i64 V, .int .i64 v, .agg #[.bool has, .int .i64 x], .int .i64 su] w fun e w' => e = .returned (.tuple #[.int .i64 (compK k V v has x su j3).1, .bool (compK k V v has x su j3).2]) ∧ Below w.heap.size w w' := by
  by_cases k1 : k = 1
  · subst k1
    exact acomp1_any w j1 j2 j3 j4 V v has x su bV bx bs
  by_cases k2 : k = 2
  · subst k2
    exact acomp2_any w j1 j2 j3 j4 V v has x su
  by_cases k3 : k = 3
  · subst k3
    exact acomp3_any w j1 j2 j3 j4 V v has x su
  have h := acomp0_any w k k1 k2 k3 j1 j2 j3 j4 V v has x su
  rw [show compK k V v has x su j3 = (0, false) by simp [compK, k1, k2, k3]]
  exact h
set_option maxRecDepth 100000 in
set_option maxHeartbeats 4000000 in
theorem rcomp_any (w : World) (k : Int) (j1 j2 j3 j4 V v : Int) (has : Bool) (x su : Int) (bV : V ≤ 9223372036854775807) (bx : x ≤ 9223372036854775807) (bs : su ≤ 9223372036854775807) : Calls Try.prog 17 #[.agg #[.int .u8 k, .int .i64 j1, .int .i64 j2, .int .i64 j3, .int .i64 j4], .int .i64 V, .int .i64 v, .agg #[.bool has, .int .i64 x], .int .i64 su] w fun e w' => e = .returned (.tuple #[.int .i64 (compK k V v has x su j3).1, .bool (compK k V v has x su j3).2]) ∧ Below w.heap.size w w' := by
  by_cases k1 : k = 1
  · subst k1
    have bg := gotF_b has bx
    rw [show compK 1 V v has x su j3 = (takeK V j3 (gotF has x) su, takeK V j3 (gotF has x) su != v) from rfl]
    cases has
    · rw [show gotF false x = 0 from rfl] at bg ⊢
      obtain ⟨u, hu⟩ : ∃ u, (w.alloc (.cells #[.int .u8 1, .int .i64 j1, .int .i64 j2, .int .i64 j3, .int .i64 j4] 26)).alloc (.cells #[.bool false, .int .i64 x] 36) = u := ⟨_, rfl⟩
      have hzu : w.heap.size + 1 < u.heap.size := by rw [← hu]; simp
      have hbu := hide (show Below w.heap.size w u by rw [← hu]; exact ((Below.refl _ _).alloc (Nat.le_refl _) _).alloc (by simp) _)
      have M1 : u.heap[w.heap.size + 1]? = some (.cells #[.bool false, .int .i64 x] 36) := by rw [← hu]; have h := heap_alloc_last (w.alloc (.cells #[.int .u8 1, .int .i64 j1, .int .i64 j2, .int .i64 j3, .int .i64 j4] 26)) (.cells #[.bool false, .int .i64 x] 36); simpa using h
      have M0 : u.heap[w.heap.size]? = some (.cells #[.int .u8 1, .int .i64 j1, .int .i64 j2, .int .i64 j3, .int .i64 j4] 26) := by rw [← hu]; exact heap_alloc_keep (heap_alloc_last _ _)
      have c0 : u.cell? ⟨w.heap.size, 0, none⟩ = some (.int .u8 1) := cell_of_row _ _ 0 _ _ _ M0
      have c1 : u.cell? ⟨w.heap.size, 1, none⟩ = some (.int .i64 j1) := cell_of_row _ _ 1 _ _ _ M0
      have c2 : u.cell? ⟨w.heap.size, 2, none⟩ = some (.int .i64 j2) := cell_of_row _ _ 2 _ _ _ M0
      have c3 : u.cell? ⟨w.heap.size, 3, none⟩ = some (.int .i64 j3) := cell_of_row _ _ 3 _ _ _ M0
      have c4 : u.cell? ⟨w.heap.size, 4, none⟩ = some (.int .i64 j4) := cell_of_row _ _ 4 _ _ _ M0
      have x0 : u.cell? ⟨w.heap.size + 1, 0, none⟩ = some (.bool false) := cell_of_row _ _ 0 _ _ _ M1
      have x1 : u.cell? ⟨w.heap.size + 1, 1, none⟩ = some (.int .i64 x) := cell_of_row _ _ 1 _ _ _ M1
      clear M0 M1
      have HU := hide hu
      clear hu
      go_enter Try.func17, Try.ntmps17
      go_upto_region 1 with fail
      rw [HU.out]
      go_wp2_with fail
      refine (r7take_any _ V j3 0 su bV bg bs).mono ?_
      rintro e w1 ⟨rfl, hb⟩
      have HB := hide hb
      clear hb c0 c1 c2 c3 c4 x0 x1
      go_wp2
      all_goals
        exact bodyPost_ret (by simp [results, Try.results17, go_sem]; try rfl) rfl ⟨rfl, hbu.out.trans (HB.out.mono (by omega))⟩
    · rw [show gotF true x = (max x 0) from rfl] at bg ⊢
      obtain ⟨u, hu⟩ : ∃ u, (w.alloc (.cells #[.int .u8 1, .int .i64 j1, .int .i64 j2, .int .i64 j3, .int .i64 j4] 26)).alloc (.cells #[.bool true, .int .i64 x] 36) = u := ⟨_, rfl⟩
      have hzu : w.heap.size + 1 < u.heap.size := by rw [← hu]; simp
      have hbu := hide (show Below w.heap.size w u by rw [← hu]; exact ((Below.refl _ _).alloc (Nat.le_refl _) _).alloc (by simp) _)
      have M1 : u.heap[w.heap.size + 1]? = some (.cells #[.bool true, .int .i64 x] 36) := by rw [← hu]; have h := heap_alloc_last (w.alloc (.cells #[.int .u8 1, .int .i64 j1, .int .i64 j2, .int .i64 j3, .int .i64 j4] 26)) (.cells #[.bool true, .int .i64 x] 36); simpa using h
      have M0 : u.heap[w.heap.size]? = some (.cells #[.int .u8 1, .int .i64 j1, .int .i64 j2, .int .i64 j3, .int .i64 j4] 26) := by rw [← hu]; exact heap_alloc_keep (heap_alloc_last _ _)
      have c0 : u.cell? ⟨w.heap.size, 0, none⟩ = some (.int .u8 1) := cell_of_row _ _ 0 _ _ _ M0
      have c1 : u.cell? ⟨w.heap.size, 1, none⟩ = some (.int .i64 j1) := cell_of_row _ _ 1 _ _ _ M0
      have c2 : u.cell? ⟨w.heap.size, 2, none⟩ = some (.int .i64 j2) := cell_of_row _ _ 2 _ _ _ M0
      have c3 : u.cell? ⟨w.heap.size, 3, none⟩ = some (.int .i64 j3) := cell_of_row _ _ 3 _ _ _ M0
      have c4 : u.cell? ⟨w.heap.size, 4, none⟩ = some (.int .i64 j4) := cell_of_row _ _ 4 _ _ _ M0
      have x0 : u.cell? ⟨w.heap.size + 1, 0, none⟩ = some (.bool true) := cell_of_row _ _ 0 _ _ _ M1
      have x1 : u.cell? ⟨w.heap.size + 1, 1, none⟩ = some (.int .i64 x) := cell_of_row _ _ 1 _ _ _ M1
      clear M0 M1
      have HU := hide hu
      clear hu
      go_enter Try.func17, Try.ntmps17
      go_upto_region 1 with fail
      rw [HU.out]
      go_wp2_with fail
      refine (r7take_any _ V j3 (max x 0) su bV bg bs).mono ?_
      rintro e w1 ⟨rfl, hb⟩
      have HB := hide hb
      clear hb c0 c1 c2 c3 c4 x0 x1
      go_wp2
      all_goals
        exact bodyPost_ret (by simp [results, Try.results17, go_sem]; try rfl) rfl ⟨rfl, hbu.out.trans (HB.out.mono (by omega))⟩
  by_cases k2 : k = 2
  · subst k2
    rw [show compK 2 V v has x su j3 = ltakeOf v has x from rfl]
    obtain ⟨u, hu⟩ : ∃ u, (w.alloc (.cells #[.int .u8 2, .int .i64 j1, .int .i64 j2, .int .i64 j3, .int .i64 j4] 26)).alloc (.cells #[.bool has, .int .i64 x] 36) = u := ⟨_, rfl⟩
    have hzu : w.heap.size + 1 < u.heap.size := by rw [← hu]; simp
    have hbu := hide (show Below w.heap.size w u by rw [← hu]; exact ((Below.refl _ _).alloc (Nat.le_refl _) _).alloc (by simp) _)
    have M1 : u.heap[w.heap.size + 1]? = some (.cells #[.bool has, .int .i64 x] 36) := by rw [← hu]; have h := heap_alloc_last (w.alloc (.cells #[.int .u8 2, .int .i64 j1, .int .i64 j2, .int .i64 j3, .int .i64 j4] 26)) (.cells #[.bool has, .int .i64 x] 36); simpa using h
    have M0 : u.heap[w.heap.size]? = some (.cells #[.int .u8 2, .int .i64 j1, .int .i64 j2, .int .i64 j3, .int .i64 j4] 26) := by rw [← hu]; exact heap_alloc_keep (heap_alloc_last _ _)
    have c0 : u.cell? ⟨w.heap.size, 0, none⟩ = some (.int .u8 2) := cell_of_row _ _ 0 _ _ _ M0
    have c1 : u.cell? ⟨w.heap.size, 1, none⟩ = some (.int .i64 j1) := cell_of_row _ _ 1 _ _ _ M0
    have c2 : u.cell? ⟨w.heap.size, 2, none⟩ = some (.int .i64 j2) := cell_of_row _ _ 2 _ _ _ M0
    have c3 : u.cell? ⟨w.heap.size, 3, none⟩ = some (.int .i64 j3) := cell_of_row _ _ 3 _ _ _ M0
    have c4 : u.cell? ⟨w.heap.size, 4, none⟩ = some (.int .i64 j4) := cell_of_row _ _ 4 _ _ _ M0
    have x0 : u.cell? ⟨w.heap.size + 1, 0, none⟩ = some (.bool has) := cell_of_row _ _ 0 _ _ _ M1
    have x1 : u.cell? ⟨w.heap.size + 1, 1, none⟩ = some (.int .i64 x) := cell_of_row _ _ 1 _ _ _ M1
    clear M0 M1
    have HU := hide hu
    clear hu
    go_enter Try.func17, Try.ntmps17
    go_upto_region 1 with fail
    rw [HU.out]
    go_wp2_with fail
    refine (rltake_any _ v has x).mono ?_
    rintro e w1 ⟨rfl, hb⟩
    have HB := hide hb
    clear hb c0 c1 c2 c3 c4 x0 x1
    go_wp2
    exact bodyPost_ret (by simp [results, Try.results17, go_sem]; try rfl) rfl ⟨rfl, hbu.out.trans (HB.out.mono (by omega))⟩
  by_cases k3 : k = 3
  · subst k3
    rw [show compK 3 V v has x su j3 = takeOf v has x from rfl]
    obtain ⟨u, hu⟩ : ∃ u, (w.alloc (.cells #[.int .u8 3, .int .i64 j1, .int .i64 j2, .int .i64 j3, .int .i64 j4] 26)).alloc (.cells #[.bool has, .int .i64 x] 36) = u := ⟨_, rfl⟩
    have hzu : w.heap.size + 1 < u.heap.size := by rw [← hu]; simp
    have hbu := hide (show Below w.heap.size w u by rw [← hu]; exact ((Below.refl _ _).alloc (Nat.le_refl _) _).alloc (by simp) _)
    have M1 : u.heap[w.heap.size + 1]? = some (.cells #[.bool has, .int .i64 x] 36) := by rw [← hu]; have h := heap_alloc_last (w.alloc (.cells #[.int .u8 3, .int .i64 j1, .int .i64 j2, .int .i64 j3, .int .i64 j4] 26)) (.cells #[.bool has, .int .i64 x] 36); simpa using h
    have M0 : u.heap[w.heap.size]? = some (.cells #[.int .u8 3, .int .i64 j1, .int .i64 j2, .int .i64 j3, .int .i64 j4] 26) := by rw [← hu]; exact heap_alloc_keep (heap_alloc_last _ _)
    have c0 : u.cell? ⟨w.heap.size, 0, none⟩ = some (.int .u8 3) := cell_of_row _ _ 0 _ _ _ M0
    have c1 : u.cell? ⟨w.heap.size, 1, none⟩ = some (.int .i64 j1) := cell_of_row _ _ 1 _ _ _ M0
    have c2 : u.cell? ⟨w.heap.size, 2, none⟩ = some (.int .i64 j2) := cell_of_row _ _ 2 _ _ _ M0
    have c3 : u.cell? ⟨w.heap.size, 3, none⟩ = some (.int .i64 j3) := cell_of_row _ _ 3 _ _ _ M0
    have c4 : u.cell? ⟨w.heap.size, 4, none⟩ = some (.int .i64 j4) := cell_of_row _ _ 4 _ _ _ M0
    have x0 : u.cell? ⟨w.heap.size + 1, 0, none⟩ = some (.bool has) := cell_of_row _ _ 0 _ _ _ M1
    have x1 : u.cell? ⟨w.heap.size + 1, 1, none⟩ = some (.int .i64 x) := cell_of_row _ _ 1 _ _ _ M1
    clear M0 M1
    have HU := hide hu
    clear hu
    go_enter Try.func17, Try.ntmps17
    go_upto_region 1 with fail
    rw [HU.out]
    go_wp2_with fail
    refine (rtake_any _ v has x).mono ?_
    rintro e w1 ⟨rfl, hb⟩
    have HB := hide hb
    clear hb c0 c1 c2 c3 c4 x0 x1
    go_wp2
    exact bodyPost_ret (by simp [results, Try.results17, go_sem]; try rfl) rfl ⟨rfl, hbu.out.trans (HB.out.mono (by omega))⟩
  rw [show compK k V v has x su j3 = (0, false) by simp [compK, k1, k2, k3]]
  obtain ⟨hk1, hk2, hk3⟩ : decide (k = 1) = false ∧ decide (k = 2) = false ∧ decide (k = 3) = false := by simp [k1, k2, k3]
  obtain ⟨u, hu⟩ : ∃ u, (w.alloc (.cells #[.int .u8 k, .int .i64 j1, .int .i64 j2, .int .i64 j3, .int .i64 j4] 26)).alloc (.cells #[.bool has, .int .i64 x] 36) = u := ⟨_, rfl⟩
  have hzu : w.heap.size + 1 < u.heap.size := by rw [← hu]; simp
  have hbu := hide (show Below w.heap.size w u by rw [← hu]; exact ((Below.refl _ _).alloc (Nat.le_refl _) _).alloc (by simp) _)
  have M1 : u.heap[w.heap.size + 1]? = some (.cells #[.bool has, .int .i64 x] 36) := by rw [← hu]; have h := heap_alloc_last (w.alloc (.cells #[.int .u8 k, .int .i64 j1, .int .i64 j2, .int .i64 j3, .int .i64 j4] 26)) (.cells #[.bool has, .int .i64 x] 36); simpa using h
  have M0 : u.heap[w.heap.size]? = some (.cells #[.int .u8 k, .int .i64 j1, .int .i64 j2, .int .i64 j3, .int .i64 j4] 26) := by rw [← hu]; exact heap_alloc_keep (heap_alloc_last _ _)
  have c0 : u.cell? ⟨w.heap.size, 0, none⟩ = some (.int .u8 k) := cell_of_row _ _ 0 _ _ _ M0
  have c1 : u.cell? ⟨w.heap.size, 1, none⟩ = some (.int .i64 j1) := cell_of_row _ _ 1 _ _ _ M0
  have c2 : u.cell? ⟨w.heap.size, 2, none⟩ = some (.int .i64 j2) := cell_of_row _ _ 2 _ _ _ M0
  have c3 : u.cell? ⟨w.heap.size, 3, none⟩ = some (.int .i64 j3) := cell_of_row _ _ 3 _ _ _ M0
  have c4 : u.cell? ⟨w.heap.size, 4, none⟩ = some (.int .i64 j4) := cell_of_row _ _ 4 _ _ _ M0
  have x0 : u.cell? ⟨w.heap.size + 1, 0, none⟩ = some (.bool has) := cell_of_row _ _ 0 _ _ _ M1
  have x1 : u.cell? ⟨w.heap.size + 1, 1, none⟩ = some (.int .i64 x) := cell_of_row _ _ 1 _ _ _ M1
  clear M0 M1
  have HU := hide hu
  clear hu
  go_enter Try.func17, Try.ntmps17
  go_upto_region 1 with fail
  rw [HU.out]
  go_wp2
  exact bodyPost_ret (by simp [results, Try.results17, go_sem]; try rfl) rfl ⟨rfl, hbu.out⟩
end Go.Proofs.Ytihlhkbdgbkafaa

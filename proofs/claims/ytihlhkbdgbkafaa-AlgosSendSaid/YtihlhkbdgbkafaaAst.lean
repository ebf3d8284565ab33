/- Start and Done of jobs. (printed by gen/ast.py) -/
import Derived.Test.YtihlhkbdgbkafaaAlj
namespace Go.Proofs.Ytihlhkbdgbkafaa
open Go.RowKit
set_option linter.unusedVariables false
set_option linter.unusedSimpArgs false
def shareF (a n : Int) : Int × Int := if a < 0 ∨ n < 1 then (0, 2) else (a.tdiv n, 0)
theorem tdiv_in {a n : Int} (h0 : 0 ≤ a) (h1 : a ≤ 9223372036854775807) (hn : 1 ≤ n) : 0 ≤ a.tdiv n ∧ a.tdiv n ≤ 9223372036854775807 := by
  have e : a.tdiv n = a / n := Int.tdiv_eq_ediv_of_nonneg h0
  rw [e]
  exact ⟨Int.ediv_nonneg h0 (by omega), Int.le_trans (Int.ediv_le_self n h0) h1⟩
set_option maxRecDepth 100000 in
set_option maxHeartbeats 4000000 in
theorem share_any (w : World) (a n : Int) (ha : -9223372036854775808 ≤ a ∧ a ≤ 9223372036854775807) : Calls Try.prog 90 #[.int .i64 a, .int .i64 n] w fun e w' => e = .returned (.tuple #[.int .i64 (shareF a n).1, .int .i64 (shareF a n).2]) ∧ w = w' := by
  by_cases h1 : a < 0
  · go_enter Try.func90, Try.ntmps90
    go_wp2
    exact bodyPost_ret (by simp [results, Try.results90, go_sem]; try rfl) rfl ⟨by simp [shareF, h1], rfl⟩
  by_cases h2 : n < 1
  · go_enter Try.func90, Try.ntmps90
    go_wp2
    exact bodyPost_ret (by simp [results, Try.results90, go_sem]; try rfl) rfl ⟨by simp [shareF, h2], rfl⟩
  have hq := tdiv_in (a := a) (n := n) (by omega) ha.2 (by omega)
  have w1 : IntKind.i64.wrap (a.tdiv n) = a.tdiv n := IntWalk.i64_in _ (by omega)
  have d0 : ¬ n = 0 := by omega
  go_enter Try.func90, Try.ntmps90
  go_wp2
  exact bodyPost_ret (by simp [results, Try.results90, go_sem]; try rfl) rfl ⟨by rw [show shareF a n = (a.tdiv n, 0) by rw [shareF, if_neg (by omega)]], rfl⟩
set_option maxRecDepth 100000 in
set_option maxHeartbeats 4000000 in
theorem ornone_any (w : World) (x e0 : Int) : Calls Try.prog 89 #[.int .i64 x, .int .i64 e0] w fun e w' => e = .returned (.int .i64 (if e0 = 0 then x else 0)) ∧ w = w' := by
  by_cases h : e0 = 0
  · subst h
    go_enter Try.func89, Try.ntmps89
    go_wp2
    go_ret
    exact ⟨rfl, rfl⟩
  go_enter Try.func89, Try.ntmps89
  go_wp2
  go_ret
  first | exact ⟨rfl, rfl⟩ | exact ⟨by rw [if_neg h]; rfl, rfl⟩
def evenF (a n : Int) : Int := if (shareF a n).2 = 0 then (shareF a n).1 else 0
set_option maxRecDepth 100000 in
set_option maxHeartbeats 4000000 in
theorem rkstart_any (w : World) (n : Int) : Calls Try.prog 88 #[.int .i64 n] w fun e w' => e = .returned (.int .i64 (evenF (4294967296) n)) ∧ w = w' := by
  go_enter Try.func88, Try.ntmps88
  go_wp2_with fail
  refine (share_any _ (4294967296) n ⟨by decide, by decide⟩).mono ?_
  rintro e w1 ⟨rfl, rfl⟩
  go_wp2_with fail
  refine (ornone_any _ _ _).mono ?_
  rintro e w1 ⟨rfl, rfl⟩
  rw [show (if (shareF 4294967296 n).2 = 0 then (shareF 4294967296 n).1 else 0) = evenF 4294967296 n from rfl]
  go_wp2
  go_ret
  exact ⟨rfl, rfl⟩
set_option maxRecDepth 100000 in
set_option maxHeartbeats 4000000 in
theorem rkgive_any (w : World) (a n : Int) (ha : -9223372036854775808 ≤ a ∧ a ≤ 9223372036854775807) : Calls Try.prog 86 #[.int .i64 a, .int .i64 n] w fun e w' => e = .returned (.int .i64 (evenF a n)) ∧ w = w' := by
  go_enter Try.func86, Try.ntmps86
  go_wp2_with fail
  refine (share_any _ a n ha).mono ?_
  rintro e w1 ⟨rfl, rfl⟩
  go_wp2_with fail
  refine (ornone_any _ _ _).mono ?_
  rintro e w1 ⟨rfl, rfl⟩
  rw [show (if (shareF a n).2 = 0 then (shareF a n).1 else 0) = evenF a n from rfl]
  go_wp2
  go_ret
  exact ⟨rfl, rfl⟩
set_option maxRecDepth 100000 in
set_option maxHeartbeats 4000000 in
theorem rks_any (w : World) (k j1 j2 j3 j4 V v : Int) : Calls Try.prog 85 #[.agg #[], .agg #[.int .u8 k, .int .i64 j1, .int .i64 j2, .int .i64 j3, .int .i64 j4], .int .i64 V, .int .i64 v] w fun e w' => e = .returned (.tuple #[.int .i64 (evenF 4294967296 V), .bool true]) ∧ Below w.heap.size w w' := by
  have HBX := hide (((Below.refl w.heap.size w).alloc (Nat.le_refl _) (.cells #[] 88)).alloc (by simp) (.cells #[.int .u8 k, .int .i64 j1, .int .i64 j2, .int .i64 j3, .int .i64 j4] 26))
  go_enter Try.func85, Try.ntmps85
  go_wp2_with fail
  refine (rkstart_any _ V).mono ?_
  rintro e w1 ⟨rfl, rfl⟩
  go_wp2
  exact bodyPost_ret (by simp [results, Try.results85, go_sem]; try rfl) rfl ⟨rfl, HBX.out⟩
set_option maxRecDepth 100000 in
set_option maxHeartbeats 4000000 in
theorem lbs_any (w : World) (k j1 j2 j3 j4 V v : Int) : Calls Try.prog 96 #[.agg #[], .agg #[.int .u8 k, .int .i64 j1, .int .i64 j2, .int .i64 j3, .int .i64 j4], .int .i64 V, .int .i64 v] w fun e w' => e = .returned (.tuple #[.int .i64 v, .bool true]) ∧ Below w.heap.size w w' := by
  have HBX := hide (((Below.refl w.heap.size w).alloc (Nat.le_refl _) (.cells #[] 91)).alloc (by simp) (.cells #[.int .u8 k, .int .i64 j1, .int .i64 j2, .int .i64 j3, .int .i64 j4] 26))
  go_enter Try.func96, Try.ntmps96
  go_wp2
  exact bodyPost_ret (by simp [results, Try.results96, go_sem]; try rfl) rfl ⟨rfl, HBX.out⟩
set_option maxRecDepth 100000 in
set_option maxHeartbeats 4000000 in
theorem wys_any (w : World) (k j1 j2 j3 j4 V v : Int) : Calls Try.prog 126 #[.agg #[], .agg #[.int .u8 k, .int .i64 j1, .int .i64 j2, .int .i64 j3, .int .i64 j4], .int .i64 V, .int .i64 v] w fun e w' => e = .returned (.tuple #[.int .i64 (startOf v j2), .bool (decide (v = j2))]) ∧ Below w.heap.size w w' := by
  have HBX := hide (((Below.refl w.heap.size w).alloc (Nat.le_refl _) (.cells #[] 92)).alloc (by simp) (.cells #[.int .u8 k, .int .i64 j1, .int .i64 j2, .int .i64 j3, .int .i64 j4] 26))
  obtain ⟨ws, hws⟩ : ∃ z, (w.alloc (.cells #[] 92)).alloc (.cells #[.int .u8 k, .int .i64 j1, .int .i64 j2, .int .i64 j3, .int .i64 j4] 26) = z := ⟨_, rfl⟩
  rw [hws] at HBX
  have x2 : ws.cell? ⟨w.heap.size + 1, 2, none⟩ = some (.int .i64 j2) := cell_of_row _ _ 2 _ _ _ (show ws.heap[w.heap.size + 1]? = some (.cells #[.int .u8 k, .int .i64 j1, .int .i64 j2, .int .i64 j3, .int .i64 j4] 26) by rw [← hws]; have h := heap_alloc_last (w.alloc (.cells #[] 92)) (.cells #[.int .u8 k, .int .i64 j1, .int .i64 j2, .int .i64 j3, .int .i64 j4] 26); simpa using h)
  have lw : w.heap.size + 1 < ws.heap.size := by rw [← hws]; simp
  have HW := hide hws
  clear hws
  go_enter Try.func126, Try.ntmps126
  go_upto_region 1 with fail
  rw [HW.out]
  refine wp_region_held_drew (S := Kept ws) (by kernel_rfl) (Kept.drew ws) (fun hS0 => ?_)
  refine take_at (i := 0) (d := 10) (v := ?_) (by simp only [List.getElem?_toArray, List.getElem?_cons_succ, List.getElem?_cons_zero]; rfl) rfl (by kernel_rfl) (by kernel_rfl) (by kernel_rfl) (fun _ _ _ h => h) rfl ?_ (by assumption) ?_
  rotate_left
  focus (intro w hSw; go_simp; (try with_reducible rfl); done)
  try simp only [List.setIfInBounds_toArray, List.set_cons_zero, List.set_cons_succ]
  refine take_at (i := 1) (d := 11) (v := ?_) (by simp only [List.getElem?_toArray, List.getElem?_cons_succ, List.getElem?_cons_zero]; rfl) rfl (by kernel_rfl) (by kernel_rfl) (by kernel_rfl) (fun _ _ _ h => h) rfl ?_ (by assumption) ?_
  rotate_left
  focus (intro w hSw; go_simp; (try with_reducible rfl); done)
  try simp only [List.setIfInBounds_toArray, List.set_cons_zero, List.set_cons_succ]
  refine take_at (i := 2) (d := 12) (v := ?_) (by simp only [List.getElem?_toArray, List.getElem?_cons_succ, List.getElem?_cons_zero]; rfl) rfl (by kernel_rfl) (by kernel_rfl) (by kernel_rfl) (fun _ _ _ h => h) rfl ?_ (by assumption) ?_
  rotate_left
  focus (intro w hSw; go_simp; (try with_reducible rfl); done)
  try simp only [List.setIfInBounds_toArray, List.set_cons_zero, List.set_cons_succ]
  refine take_at (i := 4) (d := 14) (v := ?_) (by simp only [List.getElem?_toArray, List.getElem?_cons_succ, List.getElem?_cons_zero]; rfl) rfl (by kernel_rfl) (by kernel_rfl) (by kernel_rfl) (fun _ _ _ h => h) rfl ?_ (by assumption) ?_
  rotate_left
  focus (intro w hSw; go_simp; (try with_reducible rfl); done)
  try simp only [List.setIfInBounds_toArray, List.set_cons_zero, List.set_cons_succ]
  refine take_at (i := 5) (d := 15) (v := ?_) (by simp only [List.getElem?_toArray, List.getElem?_cons_succ, List.getElem?_cons_zero]; rfl) rfl (by kernel_rfl) (by kernel_rfl) (by kernel_rfl) (fun _ _ _ h => h) rfl ?_ (by assumption) ?_
  rotate_left
  focus (intro w hSw; go_simp; (try with_reducible rfl); done)
  try simp only [List.setIfInBounds_toArray, List.set_cons_zero, List.set_cons_succ]
  refine take_at (i := 6) (d := 16) (v := ?_) (by simp only [List.getElem?_toArray, List.getElem?_cons_succ, List.getElem?_cons_zero]; rfl) rfl (by kernel_rfl) (by kernel_rfl) (by kernel_rfl) (fun _ _ _ h => h) rfl ?_ (by assumption) ?_
  rotate_left
  focus (intro w hSw; go_simp; (try with_reducible rfl); done)
  try simp only [List.setIfInBounds_toArray, List.set_cons_zero, List.set_cons_succ]
  refine take_at (i := 7) (d := 17) (v := ?_) (by simp only [List.getElem?_toArray, List.getElem?_cons_succ, List.getElem?_cons_zero]; rfl) rfl (by kernel_rfl) (by kernel_rfl) (by kernel_rfl) (fun _ _ _ h => h) rfl ?_ (by assumption) ?_
  rotate_left
  focus (intro w hSw; go_simp; (try with_reducible rfl); done)
  try simp only [List.setIfInBounds_toArray, List.set_cons_zero, List.set_cons_succ]
  refine call_at (i := 3) (d := 13) (by simp only [List.getElem?_toArray, List.getElem?_cons_succ, List.getElem?_cons_zero]; rfl) rfl (by kernel_rfl) rfl (fun K hK => ?_)
  go_simp
  refine (start_any _ v j2).mono ?_
  rintro e z1 ⟨rfl, rfl⟩
  have hS1 := hS0
  go_wp2_with fail
  refine hK.out _ _ hS1 (fun hSn => ?_)
  clear hK K
  try simp only [List.setIfInBounds_toArray, List.set_cons_zero, List.set_cons_succ]
  refine take_at (i := 8) (d := 8) (v := ?_) (by simp only [List.getElem?_toArray, List.getElem?_cons_succ, List.getElem?_cons_zero]; rfl) rfl (by kernel_rfl) (by kernel_rfl) (by kernel_rfl) (fun _ _ _ h => h) rfl ?_ (by assumption) ?_
  rotate_left
  focus (intro w hSw; go_simp; (try with_reducible rfl); done)
  try simp only [List.setIfInBounds_toArray, List.set_cons_zero, List.set_cons_succ]
  refine take_at (i := 9) (d := 9) (v := ?_) (by simp only [List.getElem?_toArray, List.getElem?_cons_succ, List.getElem?_cons_zero]; rfl) rfl (by kernel_rfl) (by kernel_rfl) (by kernel_rfl) (fun _ _ _ h => h) rfl ?_ (by assumption) ?_
  rotate_left
  focus (intro w hSw; go_simp; (try with_reducible rfl); done)
  try simp only [List.setIfInBounds_toArray, List.set_cons_zero, List.set_cons_succ]
  refine wpAnyH_done (by kernel_rfl) ?_ _
  go_wp2
  exact bodyPost_ret (by simp [results, Try.results126, go_sem]; try rfl) rfl ⟨by first | rfl | simp, HBX.out.trans ((below_dr (Below.refl _ _)).mono HBX.out.size)⟩
end Go.Proofs.Ytihlhkbdgbkafaa

/- Start and Done of jobs. (printed by gen/ast.py) Start and Done of jobs: algos and the document. (printed by gen/asu.py) -/
import Derived.Test.YtgbahnlgblahpaaGreatAlj
namespace Go.Proofs.YtgbahnlgblahpaaGreat
open Go.RowKit
set_option linter.unusedVariables false
set_option linter.unusedSimpArgs false
def shareF (a n : Int) : Int × Int := if a < 0 ∨ n < 1 then (0, 2) else (a.tdiv n, 0)
theorem tdiv_in {a n : Int} (h0 : 0 ≤ a) (h1 : a ≤ 9223372036854775807) (hn : 1 ≤ n) : 0 ≤ a.tdiv n ∧ a.tdiv n ≤ 9223372036854775807 := by
  have e : a.tdiv n = a / n := Int.tdiv_eq_ediv_of_nonneg h0
  rw [e]
  exact ⟨Int.ediv_nonneg h0 (by omega), Int.le_trans (Int.ediv_le_self n h0) h1⟩
set_option maxRecDepth 100000 in
set_option maxHeartbeats 4000000 in
theorem share_any (w : World) (a n : Int) (ha : -9223372036854775808 ≤ a ∧ a ≤ 9223372036854775807) : Calls Tryz.prog 148 #[.int .i64 a, .int .i64 n] w fun e w' => e = .returned (.tuple #[.int .i64 (shareF a n).1, .int .i64 (shareF a n).2]) ∧ w = w' := by
  by_cases h1 : a < 0
  · go_enter Tryz.func148, Tryz.ntmps148
    go_wp2
    exact bodyPost_ret (by simp [results, Tryz.results148, go_sem]; try rfl) rfl ⟨by simp [shareF, h1], rfl⟩
  by_cases h2 : n < 1
  · go_enter Tryz.func148, Tryz.ntmps148
    go_wp2
    exact bodyPost_ret (by simp [results, Tryz.results148, go_sem]; try rfl) rfl ⟨by simp [shareF, h2], rfl⟩
  have hq := tdiv_in (a := a) (n := n) (by omega) ha.2 (by omega)
  have w1 : IntKind.i64.wrap (a.tdiv n) = a.tdiv n := IntWalk.i64_in _ (by omega)
  have d0 : ¬ n = 0 := by omega
  go_enter Tryz.func148, Tryz.ntmps148
  go_wp2
  exact bodyPost_ret (by simp [results, Tryz.results148, go_sem]; try rfl) rfl ⟨by rw [show shareF a n = (a.tdiv n, 0) by rw [shareF, if_neg (by omega)]], rfl⟩
set_option maxRecDepth 100000 in
set_option maxHeartbeats 4000000 in
theorem ornone_any (w : World) (x e0 : Int) : Calls Tryz.prog 147 #[.int .i64 x, .int .i64 e0] w fun e w' => e = .returned (.int .i64 (if e0 = 0 then x else 0)) ∧ w = w' := by
  by_cases h : e0 = 0
  · subst h
    go_enter Tryz.func147, Tryz.ntmps147
    go_wp2
    go_ret
    exact ⟨rfl, rfl⟩
  go_enter Tryz.func147, Tryz.ntmps147
  go_wp2
  go_ret
  first | exact ⟨rfl, rfl⟩ | exact ⟨by rw [if_neg h]; rfl, rfl⟩
def evenF (a n : Int) : Int := if (shareF a n).2 = 0 then (shareF a n).1 else 0
set_option maxRecDepth 100000 in
set_option maxHeartbeats 4000000 in
theorem rkstart_any (w : World) (n : Int) : Calls Tryz.prog 146 #[.int .i64 n] w fun e w' => e = .returned (.int .i64 (evenF (4294967296) n)) ∧ w = w' := by
  go_enter Tryz.func146, Tryz.ntmps146
  go_wp2_with fail
  refine (share_any _ (4294967296) n ⟨by decide, by decide⟩).mono ?_
  rintro e w1 ⟨rfl, rfl⟩
  go_wp2_with fail
  refine (ornone_any _ _ _).mono ?_
  rintro e w1 ⟨rfl, rfl⟩
  rw [show (if (shareF 4294967296 n).2 = 0 then (shareF 4294967296 n).1 else 0) = evenF 4294967296 n from rfl]
  go_wp2
  go_ret
  exact ⟨rfl, rfl⟩
set_option maxRecDepth 100000 in
set_option maxHeartbeats 4000000 in
theorem rkgive_any (w : World) (a n : Int) (ha : -9223372036854775808 ≤ a ∧ a ≤ 9223372036854775807) : Calls Tryz.prog 144 #[.int .i64 a, .int .i64 n] w fun e w' => e = .returned (.int .i64 (evenF a n)) ∧ w = w' := by
  go_enter Tryz.func144, Tryz.ntmps144
  go_wp2_with fail
  refine (share_any _ a n ha).mono ?_
  rintro e w1 ⟨rfl, rfl⟩
  go_wp2_with fail
  refine (ornone_any _ _ _).mono ?_
  rintro e w1 ⟨rfl, rfl⟩
  rw [show (if (shareF a n).2 = 0 then (shareF a n).1 else 0) = evenF a n from rfl]
  go_wp2
  go_ret
  exact ⟨rfl, rfl⟩
set_option maxRecDepth 100000 in
set_option maxHeartbeats 4000000 in
theorem rks_any (w : World) (k j1 j2 j3 j4 V v : Int) : Calls Tryz.prog 143 #[.agg #[], .agg #[.int .u8 k, .int .i64 j1, .int .i64 j2, .int .i64 j3, .int .i64 j4], .int .i64 V, .int .i64 v] w fun e w' => e = .returned (.tuple #[.int .i64 (evenF 4294967296 V), .bool true]) ∧ Below w.heap.size w w' := by
  have HBX := hide (((Below.refl w.heap.size w).alloc (Nat.le_refl _) (.cells #[] 83)).alloc (by simp) (.cells #[.int .u8 k, .int .i64 j1, .int .i64 j2, .int .i64 j3, .int .i64 j4] 26))
  go_enter Tryz.func143, Tryz.ntmps143
  go_wp2_with fail
  refine (rkstart_any _ V).mono ?_
  rintro e w1 ⟨rfl, rfl⟩
  go_wp2
  exact bodyPost_ret (by simp [results, Tryz.results143, go_sem]; try rfl) rfl ⟨rfl, HBX.out⟩
set_option maxRecDepth 100000 in
set_option maxHeartbeats 4000000 in
theorem lbs_any (w : World) (k j1 j2 j3 j4 V v : Int) : Calls Tryz.prog 154 #[.agg #[], .agg #[.int .u8 k, .int .i64 j1, .int .i64 j2, .int .i64 j3, .int .i64 j4], .int .i64 V, .int .i64 v] w fun e w' => e = .returned (.tuple #[.int .i64 v, .bool true]) ∧ Below w.heap.size w w' := by
  have HBX := hide (((Below.refl w.heap.size w).alloc (Nat.le_refl _) (.cells #[] 86)).alloc (by simp) (.cells #[.int .u8 k, .int .i64 j1, .int .i64 j2, .int .i64 j3, .int .i64 j4] 26))
  go_enter Tryz.func154, Tryz.ntmps154
  go_wp2
  exact bodyPost_ret (by simp [results, Tryz.results154, go_sem]; try rfl) rfl ⟨rfl, HBX.out⟩
set_option maxRecDepth 100000 in
set_option maxHeartbeats 4000000 in
theorem wys_any (w : World) (k j1 j2 j3 j4 V v : Int) : Calls Tryz.prog 184 #[.agg #[], .agg #[.int .u8 k, .int .i64 j1, .int .i64 j2, .int .i64 j3, .int .i64 j4], .int .i64 V, .int .i64 v] w fun e w' => e = .returned (.tuple #[.int .i64 (startOf v j2), .bool (decide (v = j2))]) ∧ Below w.heap.size w w' := by
  have HBX := hide (((Below.refl w.heap.size w).alloc (Nat.le_refl _) (.cells #[] 87)).alloc (by simp) (.cells #[.int .u8 k, .int .i64 j1, .int .i64 j2, .int .i64 j3, .int .i64 j4] 26))
  obtain ⟨ws, hws⟩ : ∃ z, (w.alloc (.cells #[] 87)).alloc (.cells #[.int .u8 k, .int .i64 j1, .int .i64 j2, .int .i64 j3, .int .i64 j4] 26) = z := ⟨_, rfl⟩
  rw [hws] at HBX
  have x2 : ws.cell? ⟨w.heap.size + 1, 2, none⟩ = some (.int .i64 j2) := cell_of_row _ _ 2 _ _ _ (show ws.heap[w.heap.size + 1]? = some (.cells #[.int .u8 k, .int .i64 j1, .int .i64 j2, .int .i64 j3, .int .i64 j4] 26) by rw [← hws]; have h := heap_alloc_last (w.alloc (.cells #[] 87)) (.cells #[.int .u8 k, .int .i64 j1, .int .i64 j2, .int .i64 j3, .int .i64 j4] 26); simpa using h)
  have lw : w.heap.size + 1 < ws.heap.size := by rw [← hws]; simp
  have HW := hide hws
  clear hws
  go_enter Tryz.func184, Tryz.ntmps184
  go_upto_region 1 with fail
  rw [HW.out]
  refine wp_region_held_drew (S := Kept ws) (by kernel_rfl) (Kept.drew ws) (fun hS0 => ?_)
  refine take_at (i := 0) (d := 10) (v := ?_) (by simp only [List.getElem?_toArray, List.getElem?_cons_succ, List.getElem?_cons_zero]; rfl) rfl (by kernel_rfl) (by kernel_rfl) (by kernel_rfl) (fun _ _ _ h => h) rfl ?_ (by assumption) ?_
  rotate_left
  focus (intro w hSw; go_simp; (try with_reducible rfl); done)
  try simp only [List.setIfInBounds_toArray, List.set_cons_zero, List.set_cons_succ]
  refine take_at (i := 1) (d := 11) (v := ?_) (by simp only [List.getElem?_toArray, List.getElem?_cons_succ, List.getElem?_cons_zero]; rfl) rfl (by kernel_rfl) (by kernel_rfl) (by kernel_rfl) (fun _ _ _ h => h) rfl ?_ (by assumption) ?_
  rotate_left
  focus (intro w hSw; go_simp; (try with_reducible rfl); done)
  try simp only [List.setIfInBounds_toArray, List.set_cons_zero, List.set_cons_succ]
  refine take_at (i := 2) (d := 12) (v := ?_) (by simp only [List.getElem?_toArray, List.getElem?_cons_succ, List.getElem?_cons_zero]; rfl) rfl (by kernel_rfl) (by kernel_rfl) (by kernel_rfl) (fun _ _ _ h => h) rfl ?_ (by assumption) ?_
  rotate_left
  focus (intro w hSw; go_simp; (try with_reducible rfl); done)
  try simp only [List.setIfInBounds_toArray, List.set_cons_zero, List.set_cons_succ]
  refine take_at (i := 4) (d := 14) (v := ?_) (by simp only [List.getElem?_toArray, List.getElem?_cons_succ, List.getElem?_cons_zero]; rfl) rfl (by kernel_rfl) (by kernel_rfl) (by kernel_rfl) (fun _ _ _ h => h) rfl ?_ (by assumption) ?_
  rotate_left
  focus (intro w hSw; go_simp; (try with_reducible rfl); done)
  try simp only [List.setIfInBounds_toArray, List.set_cons_zero, List.set_cons_succ]
  refine take_at (i := 5) (d := 15) (v := ?_) (by simp only [List.getElem?_toArray, List.getElem?_cons_succ, List.getElem?_cons_zero]; rfl) rfl (by kernel_rfl) (by kernel_rfl) (by kernel_rfl) (fun _ _ _ h => h) rfl ?_ (by assumption) ?_
  rotate_left
  focus (intro w hSw; go_simp; (try with_reducible rfl); done)
  try simp only [List.setIfInBounds_toArray, List.set_cons_zero, List.set_cons_succ]
  refine take_at (i := 6) (d := 16) (v := ?_) (by simp only [List.getElem?_toArray, List.getElem?_cons_succ, List.getElem?_cons_zero]; rfl) rfl (by kernel_rfl) (by kernel_rfl) (by kernel_rfl) (fun _ _ _ h => h) rfl ?_ (by assumption) ?_
  rotate_left
  focus (intro w hSw; go_simp; (try with_reducible rfl); done)
  try simp only [List.setIfInBounds_toArray, List.set_cons_zero, List.set_cons_succ]
  refine take_at (i := 7) (d := 17) (v := ?_) (by simp only [List.getElem?_toArray, List.getElem?_cons_succ, List.getElem?_cons_zero]; rfl) rfl (by kernel_rfl) (by kernel_rfl) (by kernel_rfl) (fun _ _ _ h => h) rfl ?_ (by assumption) ?_
  rotate_left
  focus (intro w hSw; go_simp; (try with_reducible rfl); done)
  try simp only [List.setIfInBounds_toArray, List.set_cons_zero, List.set_cons_succ]
  refine call_at (i := 3) (d := 13) (by simp only [List.getElem?_toArray, List.getElem?_cons_succ, List.getElem?_cons_zero]; rfl) rfl (by kernel_rfl) rfl (fun K hK => ?_)
  go_simp
  refine (start_any _ v j2).mono ?_
  rintro e z1 ⟨rfl, rfl⟩
  have hS1 := hS0
  go_wp2_with fail
  refine hK.out _ _ hS1 (fun hSn => ?_)
  clear hK K
  try simp only [List.setIfInBounds_toArray, List.set_cons_zero, List.set_cons_succ]
  refine take_at (i := 8) (d := 8) (v := ?_) (by simp only [List.getElem?_toArray, List.getElem?_cons_succ, List.getElem?_cons_zero]; rfl) rfl (by kernel_rfl) (by kernel_rfl) (by kernel_rfl) (fun _ _ _ h => h) rfl ?_ (by assumption) ?_
  rotate_left
  focus (intro w hSw; go_simp; (try with_reducible rfl); done)
  try simp only [List.setIfInBounds_toArray, List.set_cons_zero, List.set_cons_succ]
  refine take_at (i := 9) (d := 9) (v := ?_) (by simp only [List.getElem?_toArray, List.getElem?_cons_succ, List.getElem?_cons_zero]; rfl) rfl (by kernel_rfl) (by kernel_rfl) (by kernel_rfl) (fun _ _ _ h => h) rfl ?_ (by assumption) ?_
  rotate_left
  focus (intro w hSw; go_simp; (try with_reducible rfl); done)
  try simp only [List.setIfInBounds_toArray, List.set_cons_zero, List.set_cons_succ]
  refine wpAnyH_done (by kernel_rfl) ?_ _
  go_wp2
  exact bodyPost_ret (by simp [results, Tryz.results184, go_sem]; try rfl) rfl ⟨by first | rfl | simp, HBX.out.trans ((below_dr (Below.refl _ _)).mono HBX.out.size)⟩
end Go.Proofs.YtgbahnlgblahpaaGreat
namespace Go.Proofs.YtgbahnlgblahpaaGreat
open Go.RowKit
set_option linter.unusedVariables false
set_option linter.unusedSimpArgs false
def startA (k j2 V v : Int) : Int × Bool := if k = 1 then (evenF 4294967296 V, true) else if k = 2 then (v, true) else if k = 3 then (startOf v j2, decide (v = j2)) else (0, false)
def doneF (k j1 j4 st mo : Int) : Bool := (decide (k = 1) || decide (k = 2) || decide (k = 3)) && (decide (j1 ≤ st) || (decide (1 ≤ st) && decide (mo ≤ if k = 1 then j4 else 0)))
set_option maxRecDepth 100000 in
set_option maxHeartbeats 4000000 in
theorem astart_any (w : World) (k j1 j2 j3 j4 V v : Int) : Calls Tryz.prog 68 #[.agg #[.int .u8 k, .int .i64 j1, .int .i64 j2, .int .i64 j3, .int .i64 j4], .int .i64 V, .int .i64 v] w fun e w' => e = .returned (.tuple #[.int .i64 (startA k j2 V v).1, .bool (startA k j2 V v).2]) ∧ Below w.heap.size w w' := by
  obtain ⟨u, hu⟩ : ∃ u, w.alloc (.cells #[.int .u8 k, .int .i64 j1, .int .i64 j2, .int .i64 j3, .int .i64 j4] 26) = u := ⟨_, rfl⟩
  have hzu : w.heap.size < u.heap.size := by rw [← hu]; simp
  have hbu := hide (show Below w.heap.size w u by rw [← hu]; exact (Below.refl _ _).alloc (Nat.le_refl _) _)
  have M0 := hide (show u.heap[w.heap.size]? = some (.cells #[.int .u8 k, .int .i64 j1, .int .i64 j2, .int .i64 j3, .int .i64 j4] 26) by rw [← hu]; exact heap_alloc_last _ _)
  by_cases k1 : k = 1
  · subst k1
    have HU := hide hu
    clear hu
    have N0 := ((Below.refl u.heap.size u).block _ hzu).trans M0.out
    have c0 : u.cell? ⟨w.heap.size, 0, none⟩ = some (.int .u8 1) := cell_of_row _ _ 0 _ _ _ N0
    have c1 : u.cell? ⟨w.heap.size, 1, none⟩ = some (.int .i64 j1) := cell_of_row _ _ 1 _ _ _ N0
    have c2 : u.cell? ⟨w.heap.size, 2, none⟩ = some (.int .i64 j2) := cell_of_row _ _ 2 _ _ _ N0
    have c3 : u.cell? ⟨w.heap.size, 3, none⟩ = some (.int .i64 j3) := cell_of_row _ _ 3 _ _ _ N0
    have c4 : u.cell? ⟨w.heap.size, 4, none⟩ = some (.int .i64 j4) := cell_of_row _ _ 4 _ _ _ N0
    clear N0
    go_enter Tryz.func68, Tryz.ntmps68
    go_wp2_with fail
    rw [HU.out]
    refine (of1 _ j1 j2 j3 j4).mono ?_
    rintro e w1 ⟨rfl, hb⟩
    have HB := hide hb
    clear c0 c1 c2 c3 c4
    have N0 := (hb.block _ hzu).trans M0.out
    have c0 : w1.cell? ⟨w.heap.size, 0, none⟩ = some (.int .u8 1) := cell_of_row _ _ 0 _ _ _ N0
    have c1 : w1.cell? ⟨w.heap.size, 1, none⟩ = some (.int .i64 j1) := cell_of_row _ _ 1 _ _ _ N0
    have c2 : w1.cell? ⟨w.heap.size, 2, none⟩ = some (.int .i64 j2) := cell_of_row _ _ 2 _ _ _ N0
    have c3 : w1.cell? ⟨w.heap.size, 3, none⟩ = some (.int .i64 j3) := cell_of_row _ _ 3 _ _ _ N0
    have c4 : w1.cell? ⟨w.heap.size, 4, none⟩ = some (.int .i64 j4) := cell_of_row _ _ 4 _ _ _ N0
    clear N0
    clear hb
    go_wp2_with fail
    refine (rks_any _ 1 j1 j2 j3 j4 V v).mono ?_
    rintro e w2 ⟨rfl, hb⟩
    have HB2 := hide hb
    clear hb
    go_wp2
    exact bodyPost_ret (by simp [results, Tryz.results68, go_sem]; try rfl) rfl ⟨by simp [startA], hbu.out.trans ((HB.out.trans (HB2.out.mono HB.out.size)).mono (by omega))⟩
  by_cases k2 : k = 2
  · subst k2
    have HU := hide hu
    clear hu
    have N0 := ((Below.refl u.heap.size u).block _ hzu).trans M0.out
    have c0 : u.cell? ⟨w.heap.size, 0, none⟩ = some (.int .u8 2) := cell_of_row _ _ 0 _ _ _ N0
    have c1 : u.cell? ⟨w.heap.size, 1, none⟩ = some (.int .i64 j1) := cell_of_row _ _ 1 _ _ _ N0
    have c2 : u.cell? ⟨w.heap.size, 2, none⟩ = some (.int .i64 j2) := cell_of_row _ _ 2 _ _ _ N0
    have c3 : u.cell? ⟨w.heap.size, 3, none⟩ = some (.int .i64 j3) := cell_of_row _ _ 3 _ _ _ N0
    have c4 : u.cell? ⟨w.heap.size, 4, none⟩ = some (.int .i64 j4) := cell_of_row _ _ 4 _ _ _ N0
    clear N0
    go_enter Tryz.func68, Tryz.ntmps68
    go_wp2_with fail
    rw [HU.out]
    refine (of2 _ j1 j2 j3 j4).mono ?_
    rintro e w1 ⟨rfl, hb⟩
    have HB := hide hb
    clear c0 c1 c2 c3 c4
    have N0 := (hb.block _ hzu).trans M0.out
    have c0 : w1.cell? ⟨w.heap.size, 0, none⟩ = some (.int .u8 2) := cell_of_row _ _ 0 _ _ _ N0
    have c1 : w1.cell? ⟨w.heap.size, 1, none⟩ = some (.int .i64 j1) := cell_of_row _ _ 1 _ _ _ N0
    have c2 : w1.cell? ⟨w.heap.size, 2, none⟩ = some (.int .i64 j2) := cell_of_row _ _ 2 _ _ _ N0
    have c3 : w1.cell? ⟨w.heap.size, 3, none⟩ = some (.int .i64 j3) := cell_of_row _ _ 3 _ _ _ N0
    have c4 : w1.cell? ⟨w.heap.size, 4, none⟩ = some (.int .i64 j4) := cell_of_row _ _ 4 _ _ _ N0
    clear N0
    clear hb
    go_wp2_with fail
    refine (lbs_any _ 2 j1 j2 j3 j4 V v).mono ?_
    rintro e w2 ⟨rfl, hb⟩
    have HB2 := hide hb
    clear hb
    go_wp2
    exact bodyPost_ret (by simp [results, Tryz.results68, go_sem]; try rfl) rfl ⟨by simp [startA], hbu.out.trans ((HB.out.trans (HB2.out.mono HB.out.size)).mono (by omega))⟩
  by_cases k3 : k = 3
  · subst k3
    have HU := hide hu
    clear hu
    have N0 := ((Below.refl u.heap.size u).block _ hzu).trans M0.out
    have c0 : u.cell? ⟨w.heap.size, 0, none⟩ = some (.int .u8 3) := cell_of_row _ _ 0 _ _ _ N0
    have c1 : u.cell? ⟨w.heap.size, 1, none⟩ = some (.int .i64 j1) := cell_of_row _ _ 1 _ _ _ N0
    have c2 : u.cell? ⟨w.heap.size, 2, none⟩ = some (.int .i64 j2) := cell_of_row _ _ 2 _ _ _ N0
    have c3 : u.cell? ⟨w.heap.size, 3, none⟩ = some (.int .i64 j3) := cell_of_row _ _ 3 _ _ _ N0
    have c4 : u.cell? ⟨w.heap.size, 4, none⟩ = some (.int .i64 j4) := cell_of_row _ _ 4 _ _ _ N0
    clear N0
    go_enter Tryz.func68, Tryz.ntmps68
    go_wp2_with fail
    rw [HU.out]
    refine (of3 _ j1 j2 j3 j4).mono ?_
    rintro e w1 ⟨rfl, hb⟩
    have HB := hide hb
    clear c0 c1 c2 c3 c4
    have N0 := (hb.block _ hzu).trans M0.out
    have c0 : w1.cell? ⟨w.heap.size, 0, none⟩ = some (.int .u8 3) := cell_of_row _ _ 0 _ _ _ N0
    have c1 : w1.cell? ⟨w.heap.size, 1, none⟩ = some (.int .i64 j1) := cell_of_row _ _ 1 _ _ _ N0
    have c2 : w1.cell? ⟨w.heap.size, 2, none⟩ = some (.int .i64 j2) := cell_of_row _ _ 2 _ _ _ N0
    have c3 : w1.cell? ⟨w.heap.size, 3, none⟩ = some (.int .i64 j3) := cell_of_row _ _ 3 _ _ _ N0
    have c4 : w1.cell? ⟨w.heap.size, 4, none⟩ = some (.int .i64 j4) := cell_of_row _ _ 4 _ _ _ N0
    clear N0
    clear hb
    go_wp2_with fail
    refine (wys_any _ 3 j1 j2 j3 j4 V v).mono ?_
    rintro e w2 ⟨rfl, hb⟩
    have HB2 := hide hb
    clear hb
    go_wp2
    exact bodyPost_ret (by simp [results, Tryz.results68, go_sem]; try rfl) rfl ⟨by simp [startA], hbu.out.trans ((HB.out.trans (HB2.out.mono HB.out.size)).mono (by omega))⟩
  have HU := hide hu
  clear hu
  have N0 := ((Below.refl u.heap.size u).block _ hzu).trans M0.out
  have c0 : u.cell? ⟨w.heap.size, 0, none⟩ = some (.int .u8 k) := cell_of_row _ _ 0 _ _ _ N0
  have c1 : u.cell? ⟨w.heap.size, 1, none⟩ = some (.int .i64 j1) := cell_of_row _ _ 1 _ _ _ N0
  have c2 : u.cell? ⟨w.heap.size, 2, none⟩ = some (.int .i64 j2) := cell_of_row _ _ 2 _ _ _ N0
  have c3 : u.cell? ⟨w.heap.size, 3, none⟩ = some (.int .i64 j3) := cell_of_row _ _ 3 _ _ _ N0
  have c4 : u.cell? ⟨w.heap.size, 4, none⟩ = some (.int .i64 j4) := cell_of_row _ _ 4 _ _ _ N0
  clear N0
  go_enter Tryz.func68, Tryz.ntmps68
  go_wp2_with fail
  rw [HU.out]
  refine (of0 _ k k1 k2 k3 j1 j2 j3 j4).mono ?_
  rintro e w1 ⟨rfl, hb⟩
  have HB := hide hb
  clear c0 c1 c2 c3 c4
  have N0 := (hb.block _ hzu).trans M0.out
  have c0 : w1.cell? ⟨w.heap.size, 0, none⟩ = some (.int .u8 k) := cell_of_row _ _ 0 _ _ _ N0
  have c1 : w1.cell? ⟨w.heap.size, 1, none⟩ = some (.int .i64 j1) := cell_of_row _ _ 1 _ _ _ N0
  have c2 : w1.cell? ⟨w.heap.size, 2, none⟩ = some (.int .i64 j2) := cell_of_row _ _ 2 _ _ _ N0
  have c3 : w1.cell? ⟨w.heap.size, 3, none⟩ = some (.int .i64 j3) := cell_of_row _ _ 3 _ _ _ N0
  have c4 : w1.cell? ⟨w.heap.size, 4, none⟩ = some (.int .i64 j4) := cell_of_row _ _ 4 _ _ _ N0
  clear N0
  clear hb
  go_wp2
  exact bodyPost_ret (by simp [results, Tryz.results68, go_sem]; try rfl) rfl ⟨by simp [startA, k1, k2, k3], hbu.out.trans (HB.out.mono (by omega))⟩
set_option maxRecDepth 100000 in
set_option maxHeartbeats 4000000 in
theorem r7start_any (w : World) (n : Int) : Calls Tryz.prog 93 #[.int .i64 n] w fun e w' => e = .returned (.int .i64 (evenF 4294967296 n)) ∧ w = w' := by
  by_cases h2 : n < 1
  · go_enter Tryz.func93, Tryz.ntmps93
    go_wp2
    go_ret
    exact ⟨by rw [show evenF 4294967296 n = 0 by simp [evenF, shareF, h2]]; rfl, rfl⟩
  have hq := tdiv_in (a := 4294967296) (n := n) (by decide) (by decide) (by omega)
  have w1 : IntKind.i64.wrap ((4294967296 : Int).tdiv n) = (4294967296 : Int).tdiv n := IntWalk.i64_in _ (by omega)
  have d0 : ¬ n = 0 := by omega
  go_enter Tryz.func93, Tryz.ntmps93
  go_wp2
  go_ret
  exact ⟨by rw [show evenF 4294967296 n = (4294967296 : Int).tdiv n by rw [evenF, show shareF 4294967296 n = ((4294967296 : Int).tdiv n, 0) by rw [shareF, if_neg (by omega)]]; rfl]; rfl, rfl⟩
set_option maxRecDepth 100000 in
set_option maxHeartbeats 4000000 in
theorem rastart_any (w : World) (k j1 j2 j3 j4 V v : Int) : Calls Tryz.prog 85 #[.agg #[.int .u8 k, .int .i64 j1, .int .i64 j2, .int .i64 j3, .int .i64 j4], .int .i64 V, .int .i64 v] w fun e w' => e = .returned (.tuple #[.int .i64 (startA k j2 V v).1, .bool (startA k j2 V v).2]) ∧ Below w.heap.size w w' := by
  obtain ⟨u, hu⟩ : ∃ u, w.alloc (.cells #[.int .u8 k, .int .i64 j1, .int .i64 j2, .int .i64 j3, .int .i64 j4] 26) = u := ⟨_, rfl⟩
  have hzu : w.heap.size < u.heap.size := by rw [← hu]; simp
  have hbu := hide (show Below w.heap.size w u by rw [← hu]; exact (Below.refl _ _).alloc (Nat.le_refl _) _)
  have M0 := hide (show u.heap[w.heap.size]? = some (.cells #[.int .u8 k, .int .i64 j1, .int .i64 j2, .int .i64 j3, .int .i64 j4] 26) by rw [← hu]; exact heap_alloc_last _ _)
  by_cases k1 : k = 1
  · subst k1
    have HU := hide hu
    clear hu
    have N0 := ((Below.refl u.heap.size u).block _ hzu).trans M0.out
    have c0 : u.cell? ⟨w.heap.size, 0, none⟩ = some (.int .u8 1) := cell_of_row _ _ 0 _ _ _ N0
    have c1 : u.cell? ⟨w.heap.size, 1, none⟩ = some (.int .i64 j1) := cell_of_row _ _ 1 _ _ _ N0
    have c2 : u.cell? ⟨w.heap.size, 2, none⟩ = some (.int .i64 j2) := cell_of_row _ _ 2 _ _ _ N0
    have c3 : u.cell? ⟨w.heap.size, 3, none⟩ = some (.int .i64 j3) := cell_of_row _ _ 3 _ _ _ N0
    have c4 : u.cell? ⟨w.heap.size, 4, none⟩ = some (.int .i64 j4) := cell_of_row _ _ 4 _ _ _ N0
    clear N0
    go_enter Tryz.func85, Tryz.ntmps85
    go_wp2_with fail
    rw [HU.out]
    refine (r7start_any _ V).mono ?_
    rintro e w1 ⟨rfl, rfl⟩
    go_wp2
    exact bodyPost_ret (by simp [results, Tryz.results85, go_sem]; try rfl) rfl ⟨by simp [startA], hbu.out⟩
  by_cases k2 : k = 2
  · subst k2
    have HU := hide hu
    clear hu
    have N0 := ((Below.refl u.heap.size u).block _ hzu).trans M0.out
    have c0 : u.cell? ⟨w.heap.size, 0, none⟩ = some (.int .u8 2) := cell_of_row _ _ 0 _ _ _ N0
    have c1 : u.cell? ⟨w.heap.size, 1, none⟩ = some (.int .i64 j1) := cell_of_row _ _ 1 _ _ _ N0
    have c2 : u.cell? ⟨w.heap.size, 2, none⟩ = some (.int .i64 j2) := cell_of_row _ _ 2 _ _ _ N0
    have c3 : u.cell? ⟨w.heap.size, 3, none⟩ = some (.int .i64 j3) := cell_of_row _ _ 3 _ _ _ N0
    have c4 : u.cell? ⟨w.heap.size, 4, none⟩ = some (.int .i64 j4) := cell_of_row _ _ 4 _ _ _ N0
    clear N0
    go_enter Tryz.func85, Tryz.ntmps85
    go_wp2
    rw [HU.out]
    exact bodyPost_ret (by simp [results, Tryz.results85, go_sem]; try rfl) rfl ⟨by simp [startA], hbu.out⟩
  by_cases k3 : k = 3
  · subst k3
    have HU := hide hu
    clear hu
    have N0 := ((Below.refl u.heap.size u).block _ hzu).trans M0.out
    have c0 : u.cell? ⟨w.heap.size, 0, none⟩ = some (.int .u8 3) := cell_of_row _ _ 0 _ _ _ N0
    have c1 : u.cell? ⟨w.heap.size, 1, none⟩ = some (.int .i64 j1) := cell_of_row _ _ 1 _ _ _ N0
    have c2 : u.cell? ⟨w.heap.size, 2, none⟩ = some (.int .i64 j2) := cell_of_row _ _ 2 _ _ _ N0
    have c3 : u.cell? ⟨w.heap.size, 3, none⟩ = some (.int .i64 j3) := cell_of_row _ _ 3 _ _ _ N0
    have c4 : u.cell? ⟨w.heap.size, 4, none⟩ = some (.int .i64 j4) := cell_of_row _ _ 4 _ _ _ N0
    clear N0
    go_enter Tryz.func85, Tryz.ntmps85
    go_upto_region 7 with fail
    rw [HU.out]
    refine wp_region_held_drew (S := Kept u) (by kernel_rfl) (Kept.drew u) (fun hS0 => ?_)
    refine take_at (i := 0) (d := 19) (v := ?_) (by simp only [List.getElem?_toArray, List.getElem?_cons_succ, List.getElem?_cons_zero]; rfl) rfl (by kernel_rfl) (by kernel_rfl) (by kernel_rfl) (fun _ _ _ h => h) rfl ?_ (by assumption) ?_
    rotate_left
    focus (intro w hSw; go_simp; (try with_reducible rfl); done)
    try simp only [List.setIfInBounds_toArray, List.set_cons_zero, List.set_cons_succ]
    refine take_at (i := 1) (d := 20) (v := ?_) (by simp only [List.getElem?_toArray, List.getElem?_cons_succ, List.getElem?_cons_zero]; rfl) rfl (by kernel_rfl) (by kernel_rfl) (by kernel_rfl) (fun _ _ _ h => h) rfl ?_ (by assumption) ?_
    rotate_left
    focus (intro w hSw; go_simp; (try with_reducible rfl); done)
    try simp only [List.setIfInBounds_toArray, List.set_cons_zero, List.set_cons_succ]
    refine take_at (i := 2) (d := 21) (v := ?_) (by simp only [List.getElem?_toArray, List.getElem?_cons_succ, List.getElem?_cons_zero]; rfl) rfl (by kernel_rfl) (by kernel_rfl) (by kernel_rfl) (fun _ _ _ h => h) rfl ?_ (by assumption) ?_
    rotate_left
    focus (intro w hSw; go_simp; (try with_reducible rfl); done)
    try simp only [List.setIfInBounds_toArray, List.set_cons_zero, List.set_cons_succ]
    refine take_at (i := 4) (d := 23) (v := ?_) (by simp only [List.getElem?_toArray, List.getElem?_cons_succ, List.getElem?_cons_zero]; rfl) rfl (by kernel_rfl) (by kernel_rfl) (by kernel_rfl) (fun _ _ _ h => h) rfl ?_ (by assumption) ?_
    rotate_left
    focus (intro w hSw; go_simp; (try with_reducible rfl); done)
    try simp only [List.setIfInBounds_toArray, List.set_cons_zero, List.set_cons_succ]
    refine take_at (i := 5) (d := 24) (v := ?_) (by simp only [List.getElem?_toArray, List.getElem?_cons_succ, List.getElem?_cons_zero]; rfl) rfl (by kernel_rfl) (by kernel_rfl) (by kernel_rfl) (fun _ _ _ h => h) rfl ?_ (by assumption) ?_
    rotate_left
    focus (intro w hSw; go_simp; (try with_reducible rfl); done)
    try simp only [List.setIfInBounds_toArray, List.set_cons_zero, List.set_cons_succ]
    refine take_at (i := 6) (d := 25) (v := ?_) (by simp only [List.getElem?_toArray, List.getElem?_cons_succ, List.getElem?_cons_zero]; rfl) rfl (by kernel_rfl) (by kernel_rfl) (by kernel_rfl) (fun _ _ _ h => h) rfl ?_ (by assumption) ?_
    rotate_left
    focus (intro w hSw; go_simp; (try with_reducible rfl); done)
    try simp only [List.setIfInBounds_toArray, List.set_cons_zero, List.set_cons_succ]
    refine take_at (i := 7) (d := 26) (v := ?_) (by simp only [List.getElem?_toArray, List.getElem?_cons_succ, List.getElem?_cons_zero]; rfl) rfl (by kernel_rfl) (by kernel_rfl) (by kernel_rfl) (fun _ _ _ h => h) rfl ?_ (by assumption) ?_
    rotate_left
    focus (intro w hSw; go_simp; (try with_reducible rfl); done)
    try simp only [List.setIfInBounds_toArray, List.set_cons_zero, List.set_cons_succ]
    refine call_at (i := 3) (d := 22) (by simp only [List.getElem?_toArray, List.getElem?_cons_succ, List.getElem?_cons_zero]; rfl) rfl (by kernel_rfl) rfl (fun K hK => ?_)
    go_simp
    refine (rstart_any _ v j2).mono ?_
    rintro e z1 ⟨rfl, rfl⟩
    have hS1 := hS0
    go_wp2_with fail
    refine hK.out _ _ hS1 (fun hSn => ?_)
    clear hK K
    try simp only [List.setIfInBounds_toArray, List.set_cons_zero, List.set_cons_succ]
    refine take_at (i := 8) (d := 6) (v := ?_) (by simp only [List.getElem?_toArray, List.getElem?_cons_succ, List.getElem?_cons_zero]; rfl) rfl (by kernel_rfl) (by kernel_rfl) (by kernel_rfl) (fun _ _ _ h => h) rfl ?_ (by assumption) ?_
    rotate_left
    focus (intro w hSw; go_simp; (try with_reducible rfl); done)
    try simp only [List.setIfInBounds_toArray, List.set_cons_zero, List.set_cons_succ]
    refine take_at (i := 9) (d := 7) (v := ?_) (by simp only [List.getElem?_toArray, List.getElem?_cons_succ, List.getElem?_cons_zero]; rfl) rfl (by kernel_rfl) (by kernel_rfl) (by kernel_rfl) (fun _ _ _ h => h) rfl ?_ (by assumption) ?_
    rotate_left
    focus (intro w hSw; go_simp; (try with_reducible rfl); done)
    try simp only [List.setIfInBounds_toArray, List.set_cons_zero, List.set_cons_succ]
    refine wpAnyH_done (by kernel_rfl) ?_ _
    go_wp2
    exact bodyPost_ret (by simp [results, Tryz.results85, go_sem]; try rfl) rfl ⟨by simp [startA]; try rfl, hbu.out.trans ((below_dr (Below.refl _ _)).mono hbu.out.size)⟩
  have HU := hide hu
  clear hu
  have N0 := ((Below.refl u.heap.size u).block _ hzu).trans M0.out
  have c0 : u.cell? ⟨w.heap.size, 0, none⟩ = some (.int .u8 k) := cell_of_row _ _ 0 _ _ _ N0
  have c1 : u.cell? ⟨w.heap.size, 1, none⟩ = some (.int .i64 j1) := cell_of_row _ _ 1 _ _ _ N0
  have c2 : u.cell? ⟨w.heap.size, 2, none⟩ = some (.int .i64 j2) := cell_of_row _ _ 2 _ _ _ N0
  have c3 : u.cell? ⟨w.heap.size, 3, none⟩ = some (.int .i64 j3) := cell_of_row _ _ 3 _ _ _ N0
  have c4 : u.cell? ⟨w.heap.size, 4, none⟩ = some (.int .i64 j4) := cell_of_row _ _ 4 _ _ _ N0
  clear N0
  go_enter Tryz.func85, Tryz.ntmps85
  go_wp2
  rw [HU.out]
  exact bodyPost_ret (by simp [results, Tryz.results85, go_sem]; try rfl) rfl ⟨by simp [startA, k1, k2, k3], hbu.out⟩
end Go.Proofs.YtgbahnlgblahpaaGreat

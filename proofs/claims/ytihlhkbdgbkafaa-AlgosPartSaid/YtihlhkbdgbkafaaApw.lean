/- The walk of the statement AlgosPart. (printed by gen/apw.py) -/
import Derived.Test.YtihlhkbdgbkafaaAwk
import Derived.Test.YtihlhkbdgbkafaaAtb
import Derived.Test.YtihlhkbdgbkafaaAtc
import Derived.Test.YtihlhkbdgbkafaaOjb
namespace Go.Proofs.Ytihlhkbdgbkafaa
open Go.RowKit
set_option linter.unusedVariables false
set_option linter.unusedSimpArgs false
set_option maxRecDepth 100000 in
set_option maxHeartbeats 16000000 in
theorem algosPart_go (w : World) (k j1 j2 j3 j4 was val : Int) (h1 : -9223372036854775808 ≤ was) (h2 : was ≤ 9223372036854775807) (h3 : -9223372036854775808 ≤ val) (h4 : val ≤ 9223372036854775807) (chg : Bool) (A : Option Addr) (n c : Nat) (a1 a2 b1 b2 : Int) (ha1 : i64B a1) (ha2 : i64B a2) (hb1 : i64B b1) (hb2 : i64B b2) :
    Calls Try.prog 7 #[.agg #[.int .u8 k, .int .i64 j1, .int .i64 j2, .int .i64 j3, .int .i64 j4], .int .i64 was, .int .i64 val, .bool chg, .slice A n c, .agg #[.int .i64 a1, .int .i64 a2], .agg #[.int .i64 b1, .int .i64 b2]] w fun e w' => e = .returned (.bool true) ∧ Below w.heap.size w w' := by
  obtain ⟨u, hu⟩ : ∃ u, (((w.alloc (.cells #[.int .u8 k, .int .i64 j1, .int .i64 j2, .int .i64 j3, .int .i64 j4] 26)).alloc (.cells #[.int .i64 a1, .int .i64 a2] 48)).alloc (.cells #[.int .i64 b1, .int .i64 b2] 48)) = u := ⟨_, rfl⟩
  have hzu : w.heap.size + 1 + 1 < u.heap.size := by rw [← hu]; simp
  have hbu := hide (show Below w.heap.size w u by rw [← hu]; exact (((Below.refl _ _).alloc (Nat.le_refl _) _).alloc (by simp) _).alloc (by simp; omega) _)
  have M0 := hide (show u.heap[w.heap.size]? = some (Obj.cells #[.int .u8 k, .int .i64 j1, .int .i64 j2, .int .i64 j3, .int .i64 j4] 26) by rw [← hu]; exact heap_alloc_keep (heap_alloc_keep ((by have h := heap_alloc_last w (.cells #[.int .u8 k, .int .i64 j1, .int .i64 j2, .int .i64 j3, .int .i64 j4] 26); simpa using h))))
  have M1 := hide (show u.heap[w.heap.size + 1]? = some (Obj.cells #[.int .i64 a1, .int .i64 a2] 48) by rw [← hu]; exact heap_alloc_keep ((by have h := heap_alloc_last (w.alloc (.cells #[.int .u8 k, .int .i64 j1, .int .i64 j2, .int .i64 j3, .int .i64 j4] 26)) (.cells #[.int .i64 a1, .int .i64 a2] 48); simpa using h)))
  have M2 := hide (show u.heap[w.heap.size + 1 + 1]? = some (Obj.cells #[.int .i64 b1, .int .i64 b2] 48) by rw [← hu]; exact (by have h := heap_alloc_last ((w.alloc (.cells #[.int .u8 k, .int .i64 j1, .int .i64 j2, .int .i64 j3, .int .i64 j4] 26)).alloc (.cells #[.int .i64 a1, .int .i64 a2] 48)) (.cells #[.int .i64 b1, .int .i64 b2] 48); simpa using h))
  have HU := hide hu
  clear hu
  by_cases hn : 100 < n
  · have hn' : (100 : Int) < (n : Int) := by omega
    clear hn
    go_enter Try.func7, Try.ntmps7
    go_wp2_with fail
    rw [HU.out]
    refine (works_any _).mono ?_
    rintro e w1 ⟨rfl, hb⟩
    have HB := hide (hbu.out.trans (hb.mono (by omega)))
    clear hb
    go_wp2
    go_ret
    exact ⟨rfl, HB.out⟩
  · have hn' : ¬ (100 : Int) < (n : Int) := by omega
    clear hn
    obtain ⟨p1, hp1⟩ : ∃ z, (partT k was val chg n).1 = z := ⟨_, rfl⟩
    obtain ⟨p2, hp2⟩ : ∃ z, (partT k was val chg n).2 = z := ⟨_, rfl⟩
    obtain ⟨r1, hr1⟩ : ∃ z, (joinF k a1 a2 b1 b2).1 = z := ⟨_, rfl⟩
    obtain ⟨r2, hr2⟩ : ∃ z, (joinF k a1 a2 b1 b2).2 = z := ⟨_, rfl⟩
    have HP1 := hide hp1
    have HP2 := hide hp2
    have HR1 := hide hr1
    have HR2 := hide hr2
    clear hp1 hp2 hr1 hr2
    go_enter Try.func7, Try.ntmps7
    go_upto_region 3 with fail
    rw [HU.out]
    have c0 : u.cell? ⟨w.heap.size, 0, none⟩ = some (.int .u8 k) := cell_of_row _ _ 0 _ _ _ M0.out
    have c1 : u.cell? ⟨w.heap.size, 1, none⟩ = some (.int .i64 j1) := cell_of_row _ _ 1 _ _ _ M0.out
    have c2 : u.cell? ⟨w.heap.size, 2, none⟩ = some (.int .i64 j2) := cell_of_row _ _ 2 _ _ _ M0.out
    have c3 : u.cell? ⟨w.heap.size, 3, none⟩ = some (.int .i64 j3) := cell_of_row _ _ 3 _ _ _ M0.out
    have c4 : u.cell? ⟨w.heap.size, 4, none⟩ = some (.int .i64 j4) := cell_of_row _ _ 4 _ _ _ M0.out
    have d10 : u.cell? ⟨w.heap.size + 1, 0, none⟩ = some (.int .i64 a1) := cell_of_row _ _ 0 _ _ _ M1.out
    have d11 : u.cell? ⟨w.heap.size + 1, 1, none⟩ = some (.int .i64 a2) := cell_of_row _ _ 1 _ _ _ M1.out
    have d20 : u.cell? ⟨w.heap.size + 1 + 1, 0, none⟩ = some (.int .i64 b1) := cell_of_row _ _ 0 _ _ _ M2.out
    have d21 : u.cell? ⟨w.heap.size + 1 + 1, 1, none⟩ = some (.int .i64 b2) := cell_of_row _ _ 1 _ _ _ M2.out
    have l0 : w.heap.size < u.heap.size := by omega
    have l1 : w.heap.size + 1 < u.heap.size := by omega
    clear hn'
    refine wp_region_held_drew (S := Kept u) (by kernel_rfl) (Kept.drew u) (fun hS0 => ?_)
    refine take_at (i := 0) (d := 19) (v := ?_) (by simp only [List.getElem?_toArray, List.getElem?_cons_succ, List.getElem?_cons_zero]; rfl) rfl (by kernel_rfl) (by kernel_rfl) (by kernel_rfl) (fun _ _ _ h => h) rfl ?_ (by assumption) ?_
    rotate_left
    focus (intro w hSw; go_simp; (try with_reducible rfl); done)
    try simp only [List.setIfInBounds_toArray, List.set_cons_zero, List.set_cons_succ]
    refine take_at (i := 1) (d := 20) (v := ?_) (by simp only [List.getElem?_toArray, List.getElem?_cons_succ, List.getElem?_cons_zero]; rfl) rfl (by kernel_rfl) (by kernel_rfl) (by kernel_rfl) (fun _ _ _ h => h) rfl ?_ (by assumption) ?_
    rotate_left
    focus (intro w hSw; go_simp; (try with_reducible rfl); done)
    try simp only [List.setIfInBounds_toArray, List.set_cons_zero, List.set_cons_succ]
    refine take_at (i := 2) (d := 21) (v := ?_) (by simp only [List.getElem?_toArray, List.getElem?_cons_succ, List.getElem?_cons_zero]; rfl) rfl (by kernel_rfl) (by kernel_rfl) (by kernel_rfl) (fun _ _ _ h => h) rfl ?_ (by assumption) ?_
    rotate_left
    focus (intro w hSw; go_simp; (try with_reducible rfl); done)
    try simp only [List.setIfInBounds_toArray, List.set_cons_zero, List.set_cons_succ]
    refine take_at (i := 3) (d := 22) (v := ?_) (by simp only [List.getElem?_toArray, List.getElem?_cons_succ, List.getElem?_cons_zero]; rfl) rfl (by kernel_rfl) (by kernel_rfl) (by kernel_rfl) (fun _ _ _ h => h) rfl ?_ (by assumption) ?_
    rotate_left
    focus (intro w hSw; go_simp; (try with_reducible rfl); done)
    try simp only [List.setIfInBounds_toArray, List.set_cons_zero, List.set_cons_succ]
    refine take_at (i := 4) (d := 23) (v := ?_) (by simp only [List.getElem?_toArray, List.getElem?_cons_succ, List.getElem?_cons_zero]; rfl) rfl (by kernel_rfl) (by kernel_rfl) (by kernel_rfl) (fun _ _ _ h => h) rfl ?_ (by assumption) ?_
    rotate_left
    focus (intro w hSw; go_simp; (try with_reducible rfl); done)
    try simp only [List.setIfInBounds_toArray, List.set_cons_zero, List.set_cons_succ]
    refine take_at (i := 7) (d := 26) (v := ?_) (by simp only [List.getElem?_toArray, List.getElem?_cons_succ, List.getElem?_cons_zero]; rfl) rfl (by kernel_rfl) (by kernel_rfl) (by kernel_rfl) (fun _ _ _ h => h) rfl ?_ (by assumption) ?_
    rotate_left
    focus (intro w hSw; go_simp; (try with_reducible rfl); done)
    try simp only [List.setIfInBounds_toArray, List.set_cons_zero, List.set_cons_succ]
    refine take_at (i := 8) (d := 27) (v := ?_) (by simp only [List.getElem?_toArray, List.getElem?_cons_succ, List.getElem?_cons_zero]; rfl) rfl (by kernel_rfl) (by kernel_rfl) (by kernel_rfl) (fun _ _ _ h => h) rfl ?_ (by assumption) ?_
    rotate_left
    focus (intro w hSw; go_simp; (try with_reducible rfl); done)
    try simp only [List.setIfInBounds_toArray, List.set_cons_zero, List.set_cons_succ]
    refine take_at (i := 9) (d := 28) (v := ?_) (by simp only [List.getElem?_toArray, List.getElem?_cons_succ, List.getElem?_cons_zero]; rfl) rfl (by kernel_rfl) (by kernel_rfl) (by kernel_rfl) (fun _ _ _ h => h) rfl ?_ (by assumption) ?_
    rotate_left
    focus (intro w hSw; go_simp; (try with_reducible rfl); done)
    try simp only [List.setIfInBounds_toArray, List.set_cons_zero, List.set_cons_succ]
    refine take_at (i := 10) (d := 29) (v := ?_) (by simp only [List.getElem?_toArray, List.getElem?_cons_succ, List.getElem?_cons_zero]; rfl) rfl (by kernel_rfl) (by kernel_rfl) (by kernel_rfl) (fun _ _ _ h => h) rfl ?_ (by assumption) ?_
    rotate_left
    focus (intro w hSw; go_simp; (try with_reducible rfl); done)
    try simp only [List.setIfInBounds_toArray, List.set_cons_zero, List.set_cons_succ]
    refine take_at (i := 11) (d := 30) (v := ?_) (by simp only [List.getElem?_toArray, List.getElem?_cons_succ, List.getElem?_cons_zero]; rfl) rfl (by kernel_rfl) (by kernel_rfl) (by kernel_rfl) (fun _ _ _ h => h) rfl ?_ (by assumption) ?_
    rotate_left
    focus (intro w hSw; go_simp; (try with_reducible rfl); done)
    try simp only [List.setIfInBounds_toArray, List.set_cons_zero, List.set_cons_succ]
    refine call_at (i := 5) (d := 24) (by simp only [List.getElem?_toArray, List.getElem?_cons_succ, List.getElem?_cons_zero]; rfl) rfl (by kernel_rfl) rfl (fun K hK => ?_)
    go_simp
    have hc := part_any u.drew k j1 j2 j3 j4 was val chg A n c h1 h2 h3 h4
    rw [HP1.out, HP2.out] at hc
    refine hc.mono ?_
    clear hc
    rintro e z1 ⟨rfl, hz⟩
    have hS1 : Kept u z1 := hS0.below (by simp) hz
    have q1 : u.heap.size ≤ z1.heap.size := by have := hz.size; simpa using this
    have B1 := hide ((below_dr0 u.heap.size u).trans (hz.mono (Nat.le_refl _)))
    clear hz
    go_wp2_with fail
    refine hK.out _ _ hS1 (fun hSn => ?_)
    clear hK K
    try simp only [List.setIfInBounds_toArray, List.set_cons_zero, List.set_cons_succ]
    refine call_at (i := 6) (d := 25) (by simp only [List.getElem?_toArray, List.getElem?_cons_succ, List.getElem?_cons_zero]; rfl) rfl (by kernel_rfl) rfl (fun K hK => ?_)
    go_simp
    have hc := plain_any z1 p1 p2
    refine hc.mono ?_
    clear hc
    rintro e z2 ⟨rfl, hz⟩
    have hS2 : Kept u z2 := hS1.below q1 hz
    have q2 : u.heap.size ≤ z2.heap.size := Nat.le_trans q1 hz.size
    have B2 := hide (B1.out.trans (hz.mono q1))
    clear hz
    go_wp2_with fail
    refine hK.out _ _ hS2 (fun hSn => ?_)
    clear hK K
    try simp only [List.setIfInBounds_toArray, List.set_cons_zero, List.set_cons_succ]
    refine call_at (i := 12) (d := 31) (by simp only [List.getElem?_toArray, List.getElem?_cons_succ, List.getElem?_cons_zero]; rfl) rfl (by kernel_rfl) rfl (fun K hK => ?_)
    go_simp
    have hc := rpart_any z2 k j1 j2 j3 j4 was val chg A n c
    rw [HP1.out, HP2.out] at hc
    refine hc.mono ?_
    clear hc
    rintro e z3 ⟨rfl, hz⟩
    have hS3 : Kept u z3 := hS2.below q2 hz
    have q3 : u.heap.size ≤ z3.heap.size := Nat.le_trans q2 hz.size
    have B3 := hide (B2.out.trans (hz.mono q2))
    clear hz
    go_wp2_with fail
    refine hK.out _ _ hS3 (fun hSn => ?_)
    clear hK K
    try simp only [List.setIfInBounds_toArray, List.set_cons_zero, List.set_cons_succ]
    refine take_at (i := 13) (d := 32) (v := ?_) (by simp only [List.getElem?_toArray, List.getElem?_cons_succ, List.getElem?_cons_zero]; rfl) rfl (by kernel_rfl) (by kernel_rfl) (by kernel_rfl) (fun _ _ _ h => h) rfl ?_ (by assumption) ?_
    rotate_left
    focus (intro w hSw; go_simp; (try with_reducible rfl); done)
    try simp only [List.setIfInBounds_toArray, List.set_cons_zero, List.set_cons_succ]
    refine take_at (i := 14) (d := 33) (v := ?_) (by simp only [List.getElem?_toArray, List.getElem?_cons_succ, List.getElem?_cons_zero]; rfl) rfl (by kernel_rfl) (by kernel_rfl) (by kernel_rfl) (fun _ _ _ h => h) rfl ?_ (by assumption) ?_
    rotate_left
    focus (intro w hSw; go_simp; (try with_reducible rfl); done)
    try simp only [List.setIfInBounds_toArray, List.set_cons_zero, List.set_cons_succ]
    refine take_at (i := 15) (d := 34) (v := ?_) (by simp only [List.getElem?_toArray, List.getElem?_cons_succ, List.getElem?_cons_zero]; rfl) rfl (by kernel_rfl) (by kernel_rfl) (by kernel_rfl) (fun _ _ _ h => h) rfl ?_ (by assumption) ?_
    rotate_left
    focus (intro w hSw; go_simp; (try with_reducible rfl); done)
    try simp only [List.setIfInBounds_toArray, List.set_cons_zero, List.set_cons_succ]
    refine take_at (i := 16) (d := 35) (v := ?_) (by simp only [List.getElem?_toArray, List.getElem?_cons_succ, List.getElem?_cons_zero]; rfl) rfl (by kernel_rfl) (by kernel_rfl) (by kernel_rfl) (fun _ _ _ h => h) rfl ?_ (by assumption) ?_
    rotate_left
    focus (intro w hSw; go_simp; (try with_reducible rfl); done)
    try simp only [List.setIfInBounds_toArray, List.set_cons_zero, List.set_cons_succ]
    refine take_at (i := 17) (d := 36) (v := ?_) (by simp only [List.getElem?_toArray, List.getElem?_cons_succ, List.getElem?_cons_zero]; rfl) rfl (by kernel_rfl) (by kernel_rfl) (by kernel_rfl) (fun _ _ _ h => h) rfl ?_ (by assumption) ?_
    rotate_left
    focus (intro w hSw; go_simp; (try with_reducible rfl); done)
    try simp only [List.setIfInBounds_toArray, List.set_cons_zero, List.set_cons_succ]
    refine take_at (i := 20) (d := 39) (v := ?_) (by simp only [List.getElem?_toArray, List.getElem?_cons_succ, List.getElem?_cons_zero]; rfl) rfl (by kernel_rfl) (by kernel_rfl) (by kernel_rfl) (fun _ _ _ h => h) rfl ?_ (by assumption) ?_
    rotate_left
    focus (intro w hSw; go_simp; (try with_reducible rfl); done)
    try simp only [List.setIfInBounds_toArray, List.set_cons_zero, List.set_cons_succ]
    refine take_at (i := 21) (d := 40) (v := ?_) (by simp only [List.getElem?_toArray, List.getElem?_cons_succ, List.getElem?_cons_zero]; rfl) rfl (by kernel_rfl) (by kernel_rfl) (by kernel_rfl) (fun _ _ _ h => h) rfl ?_ (by assumption) ?_
    rotate_left
    focus (intro w hSw; go_simp; (try with_reducible rfl); done)
    try simp only [List.setIfInBounds_toArray, List.set_cons_zero, List.set_cons_succ]
    refine take_at (i := 23) (d := 42) (v := ?_) (by simp only [List.getElem?_toArray, List.getElem?_cons_succ, List.getElem?_cons_zero]; rfl) rfl (by kernel_rfl) (by kernel_rfl) (by kernel_rfl) (fun _ _ _ h => h) rfl ?_ (by assumption) ?_
    rotate_left
    focus (intro w hSw; go_simp; (try with_reducible rfl); done)
    try simp only [List.setIfInBounds_toArray, List.set_cons_zero, List.set_cons_succ]
    refine call_at (i := 18) (d := 37) (by simp only [List.getElem?_toArray, List.getElem?_cons_succ, List.getElem?_cons_zero]; rfl) rfl (by kernel_rfl) rfl (fun K hK => ?_)
    go_simp
    have hc := join_any z3 k j1 j2 j3 j4 a1 a2 b1 b2 ha1 ha2 hb1 hb2
    rw [HR1.out, HR2.out] at hc
    refine hc.mono ?_
    clear hc
    rintro e z4 ⟨rfl, hz⟩
    have hS4 : Kept u z4 := hS3.below q3 hz
    have q4 : u.heap.size ≤ z4.heap.size := Nat.le_trans q3 hz.size
    have B4 := hide (B3.out.trans (hz.mono q3))
    clear hz
    go_wp2_with fail
    refine hK.out _ _ hS4 (fun hSn => ?_)
    clear hK K
    try simp only [List.setIfInBounds_toArray, List.set_cons_zero, List.set_cons_succ]
    refine call_at (i := 19) (d := 38) (by simp only [List.getElem?_toArray, List.getElem?_cons_succ, List.getElem?_cons_zero]; rfl) rfl (by kernel_rfl) rfl (fun K hK => ?_)
    go_simp
    have hc := plain_any z4 r1 r2
    refine hc.mono ?_
    clear hc
    rintro e z5 ⟨rfl, hz⟩
    have hS5 : Kept u z5 := hS4.below q4 hz
    have q5 : u.heap.size ≤ z5.heap.size := Nat.le_trans q4 hz.size
    have B5 := hide (B4.out.trans (hz.mono q4))
    clear hz
    go_wp2_with fail
    refine hK.out _ _ hS5 (fun hSn => ?_)
    clear hK K
    try simp only [List.setIfInBounds_toArray, List.set_cons_zero, List.set_cons_succ]
    refine call_at (i := 22) (d := 41) (by simp only [List.getElem?_toArray, List.getElem?_cons_succ, List.getElem?_cons_zero]; rfl) rfl (by kernel_rfl) rfl (fun K hK => ?_)
    go_simp
    have hc := plain_any z5 a1 a2
    refine hc.mono ?_
    clear hc
    rintro e z6 ⟨rfl, hz⟩
    have hS6 : Kept u z6 := hS5.below q5 hz
    have q6 : u.heap.size ≤ z6.heap.size := Nat.le_trans q5 hz.size
    have B6 := hide (B5.out.trans (hz.mono q5))
    clear hz
    go_wp2_with fail
    refine hK.out _ _ hS6 (fun hSn => ?_)
    clear hK K
    try simp only [List.setIfInBounds_toArray, List.set_cons_zero, List.set_cons_succ]
    refine call_at (i := 24) (d := 43) (by simp only [List.getElem?_toArray, List.getElem?_cons_succ, List.getElem?_cons_zero]; rfl) rfl (by kernel_rfl) rfl (fun K hK => ?_)
    go_simp
    have hc := plain_any z6 b1 b2
    refine hc.mono ?_
    clear hc
    rintro e z7 ⟨rfl, hz⟩
    have hS7 : Kept u z7 := hS6.below q6 hz
    have q7 : u.heap.size ≤ z7.heap.size := Nat.le_trans q6 hz.size
    have B7 := hide (B6.out.trans (hz.mono q6))
    clear hz
    go_wp2_with fail
    refine hK.out _ _ hS7 (fun hSn => ?_)
    clear hK K
    try simp only [List.setIfInBounds_toArray, List.set_cons_zero, List.set_cons_succ]
    refine call_at (i := 25) (d := 44) (by simp only [List.getElem?_toArray, List.getElem?_cons_succ, List.getElem?_cons_zero]; rfl) rfl (by kernel_rfl) rfl (fun K hK => ?_)
    go_simp
    have hc := rjoin_any z7 k j1 j2 j3 j4 a1 a2 b1 b2
    rw [HR1.out, HR2.out] at hc
    refine hc.mono ?_
    clear hc
    rintro e z8 ⟨rfl, hz⟩
    have hS8 : Kept u z8 := hS7.below q7 hz
    have q8 : u.heap.size ≤ z8.heap.size := Nat.le_trans q7 hz.size
    have B8 := hide (B7.out.trans (hz.mono q7))
    clear hz
    go_wp2_with fail
    refine hK.out _ _ hS8 (fun hSn => ?_)
    clear hK K
    try simp only [List.setIfInBounds_toArray, List.set_cons_zero, List.set_cons_succ]
    refine take_at (i := 26) (d := 45) (v := ?_) (by simp only [List.getElem?_toArray, List.getElem?_cons_succ, List.getElem?_cons_zero]; rfl) rfl (by kernel_rfl) (by kernel_rfl) (by kernel_rfl) (fun _ _ _ h => h) rfl ?_ (by assumption) ?_
    rotate_left
    focus (intro w hSw; go_simp; (try with_reducible rfl); done)
    try simp only [List.setIfInBounds_toArray, List.set_cons_zero, List.set_cons_succ]
    refine take_at (i := 27) (d := 46) (v := ?_) (by simp only [List.getElem?_toArray, List.getElem?_cons_succ, List.getElem?_cons_zero]; rfl) rfl (by kernel_rfl) (by kernel_rfl) (by kernel_rfl) (fun _ _ _ h => h) rfl ?_ (by assumption) ?_
    rotate_left
    focus (intro w hSw; go_simp; (try with_reducible rfl); done)
    try simp only [List.setIfInBounds_toArray, List.set_cons_zero, List.set_cons_succ]
    refine take_at (i := 28) (d := 47) (v := ?_) (by simp only [List.getElem?_toArray, List.getElem?_cons_succ, List.getElem?_cons_zero]; rfl) rfl (by kernel_rfl) (by kernel_rfl) (by kernel_rfl) (fun _ _ _ h => h) rfl ?_ (by assumption) ?_
    rotate_left
    focus (intro w hSw; go_simp; (try with_reducible rfl); done)
    try simp only [List.setIfInBounds_toArray, List.set_cons_zero, List.set_cons_succ]
    refine call_at (i := 29) (d := 48) (by simp only [List.getElem?_toArray, List.getElem?_cons_succ, List.getElem?_cons_zero]; rfl) rfl (by kernel_rfl) rfl (fun K hK => ?_)
    go_simp
    have hc := works_any z8
    refine hc.mono ?_
    clear hc
    rintro e z9 ⟨rfl, hz⟩
    have hS9 : Kept u z9 := hS8.below q8 hz
    have q9 : u.heap.size ≤ z9.heap.size := Nat.le_trans q8 hz.size
    have B9 := hide (B8.out.trans (hz.mono q8))
    clear hz
    go_wp2_with fail
    refine hK.out _ _ hS9 (fun hSn => ?_)
    clear hK K
    try simp only [List.setIfInBounds_toArray, List.set_cons_zero, List.set_cons_succ]
    refine take_at (i := 30) (d := 49) (v := ?_) (by simp only [List.getElem?_toArray, List.getElem?_cons_succ, List.getElem?_cons_zero]; rfl) rfl (by kernel_rfl) (by kernel_rfl) (by kernel_rfl) (fun _ _ _ h => h) rfl ?_ (by assumption) ?_
    rotate_left
    focus (intro w hSw; go_simp; (try with_reducible rfl); done)
    try simp only [List.setIfInBounds_toArray, List.set_cons_zero, List.set_cons_succ]
    refine take_at (i := 31) (d := 14) (v := ?_) (by simp only [List.getElem?_toArray, List.getElem?_cons_succ, List.getElem?_cons_zero]; rfl) rfl (by kernel_rfl) (by kernel_rfl) (by kernel_rfl) (fun _ _ _ h => h) rfl ?_ (by assumption) ?_
    rotate_left
    focus (intro w hSw; go_simp; (try with_reducible rfl); done)
    try simp only [List.setIfInBounds_toArray, List.set_cons_zero, List.set_cons_succ]
    refine wpAnyH_done (by kernel_rfl) ?_ _
    have HF := hide (hbu.out.trans (B9.out.mono (by omega)))
    go_wp2
    go_ret
    exact ⟨rfl, HF.out⟩
theorem algosPart_walk (w : World) (k j1 j2 j3 j4 : Int) (hk : 0 ≤ k ∧ k ≤ 255) (hj1 : i64B j1) (hj2 : i64B j2) (hj3 : i64B j3) (hj4 : i64B j4) (was : Int) (h1 : -9223372036854775808 ≤ was) (h2 : was ≤ 9223372036854775807) (val : Int) (h3 : -9223372036854775808 ≤ val) (h4 : val ≤ 9223372036854775807) (chg : Bool)
    (A : Option Addr) (es : List Ed) (c : Nat) (hE : Eds w w.heap.size A es) (hl : es.length ≤ c) (hc : c ≤ 9223372036854775807) (hB : ∀ e ∈ es, edB e) (a1 a2 : Int) (ha1 : i64B a1) (ha2 : i64B a2) (b1 b2 : Int) (hb1 : i64B b1) (hb2 : i64B b2) :
    Calls Try.prog 7 #[.agg #[.int .u8 k, .int .i64 j1, .int .i64 j2, .int .i64 j3, .int .i64 j4], .int .i64 was, .int .i64 val, .bool chg, .slice A es.length c, .agg #[.int .i64 a1, .int .i64 a2], .agg #[.int .i64 b1, .int .i64 b2]] w fun e w' => e = .returned (.bool true) ∧ Below w.heap.size w w' :=
  algosPart_go w k j1 j2 j3 j4 was val h1 h2 h3 h4 chg A es.length c a1 a2 b1 b2 ha1 ha2 hb1 hb2
end Go.Proofs.Ytihlhkbdgbkafaa

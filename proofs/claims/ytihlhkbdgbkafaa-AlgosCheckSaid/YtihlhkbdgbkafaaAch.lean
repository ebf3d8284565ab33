/- The walk of the statement AlgosCheck. (printed by gen/ach.py) -/
import Derived.Test.YtihlhkbdgbkafaaAwk
import Derived.Test.YtihlhkbdgbkafaaAcr
import Derived.Test.YtihlhkbdgbkafaaLgt
import Derived.Test.YtihlhkbdgbkafaaOjb
namespace Go.Proofs.Ytihlhkbdgbkafaa
open Go.RowKit
set_option linter.unusedVariables false
set_option linter.unusedSimpArgs false
set_option maxRecDepth 100000 in
set_option maxHeartbeats 16000000 in
theorem algosCheck_go (w : World) (k j1 j2 j3 j4 V v0 st mo : Int) (A : Option Addr) (es : List Ed) (L c : Nat) (hL : es.length = L) (hE : Eds w w.heap.size A es) (hc : L ≤ 9223372036854775807) :
    Calls Try.prog 3 #[.agg #[.int .i64 V, .slice A L c], .agg #[.int .u8 k, .int .i64 j1, .int .i64 j2, .int .i64 j3, .int .i64 j4], .int .i64 v0, .int .i64 st, .int .i64 mo] w fun e w' => e = .returned (.bool true) ∧ Below w.heap.size w w' := by
  obtain ⟨u, hu⟩ : ∃ u, (w.alloc (.cells #[.int .i64 V, .slice A L c] 24)).alloc (.cells #[.int .u8 k, .int .i64 j1, .int .i64 j2, .int .i64 j3, .int .i64 j4] 26) = u := ⟨_, rfl⟩
  have hzu : w.heap.size + 1 < u.heap.size := by rw [← hu]; simp
  have hbu := hide (show Below w.heap.size w u by rw [← hu]; exact ((Below.refl _ _).alloc (Nat.le_refl _) _).alloc (by simp) _)
  have M1 := hide (show u.heap[w.heap.size + 1]? = some (.cells #[.int .u8 k, .int .i64 j1, .int .i64 j2, .int .i64 j3, .int .i64 j4] 26) by rw [← hu]; have h := heap_alloc_last (w.alloc (.cells #[.int .i64 V, .slice A L c] 24)) (.cells #[.int .u8 k, .int .i64 j1, .int .i64 j2, .int .i64 j3, .int .i64 j4] 26); simpa using h)
  have M0 := hide (show u.heap[w.heap.size]? = some (.cells #[.int .i64 V, .slice A L c] 24) by rw [← hu]; exact heap_alloc_keep (heap_alloc_last _ _))
  have HE := hide (hE.next hbu.out)
  have HU := hide hu
  clear hu hE
  by_cases hl : 200 < L
  · have N0 := M0.out
    have g0 : u.cell? ⟨w.heap.size, 0, none⟩ = some (.int .i64 V) := cell_of_row _ _ 0 _ _ _ N0
    have g1 : u.cell? ⟨w.heap.size, 1, none⟩ = some (.slice A L c) := cell_of_row _ _ 1 _ _ _ N0
    clear N0
    have N1 := M1.out
    have c0 : u.cell? ⟨w.heap.size + 1, 0, none⟩ = some (.int .u8 k) := cell_of_row _ _ 0 _ _ _ N1
    have c1 : u.cell? ⟨w.heap.size + 1, 1, none⟩ = some (.int .i64 j1) := cell_of_row _ _ 1 _ _ _ N1
    have c2 : u.cell? ⟨w.heap.size + 1, 2, none⟩ = some (.int .i64 j2) := cell_of_row _ _ 2 _ _ _ N1
    have c3 : u.cell? ⟨w.heap.size + 1, 3, none⟩ = some (.int .i64 j3) := cell_of_row _ _ 3 _ _ _ N1
    have c4 : u.cell? ⟨w.heap.size + 1, 4, none⟩ = some (.int .i64 j4) := cell_of_row _ _ 4 _ _ _ N1
    clear N1
    go_enter Try.func3, Try.ntmps3
    go_upto_region 1 with fail
    rw [HU.out]
    go_wp2_with fail
    refine (light_any u V A L c 200).mono ?_
    rintro e w1 ⟨rfl, hb⟩
    rw [show decide ((L : Int) ≤ 200) = false by simp; omega]
    have B1' := hide hb
    have t1 : u.heap.size ≤ w1.heap.size := hb.size
    clear hb
    clear g0 g1 c0 c1 c2 c3 c4
    go_wp2_with fail
    refine (works_any _).mono ?_
    rintro e w2 ⟨rfl, hb⟩
    have HF := hide (hbu.out.trans ((B1'.out.trans (hb.mono t1)).mono (by omega)))
    clear hb
    go_wp2
    go_ret
    exact ⟨rfl, HF.out⟩
  · obtain ⟨s1, hs1⟩ : ∃ z, (startA k j2 V v0).1 = z := ⟨_, rfl⟩
    obtain ⟨s2, hs2⟩ : ∃ z, (startA k j2 V v0).2 = z := ⟨_, rfl⟩
    obtain ⟨ec, hec⟩ : ∃ z, acheckF k j1 j2 j3 j4 V es = z := ⟨_, rfl⟩
    obtain ⟨dn, hdn⟩ : ∃ z, doneF k j1 j4 st mo = z := ⟨_, rfl⟩
    have HS1 := hide hs1
    have HS2 := hide hs2
    have HEC := hide hec
    have HDN := hide hdn
    clear hs1 hs2 hec hdn
    have N0 := M0.out
    have g0 : u.cell? ⟨w.heap.size, 0, none⟩ = some (.int .i64 V) := cell_of_row _ _ 0 _ _ _ N0
    have g1 : u.cell? ⟨w.heap.size, 1, none⟩ = some (.slice A L c) := cell_of_row _ _ 1 _ _ _ N0
    clear N0
    have N1 := M1.out
    have c0 : u.cell? ⟨w.heap.size + 1, 0, none⟩ = some (.int .u8 k) := cell_of_row _ _ 0 _ _ _ N1
    have c1 : u.cell? ⟨w.heap.size + 1, 1, none⟩ = some (.int .i64 j1) := cell_of_row _ _ 1 _ _ _ N1
    have c2 : u.cell? ⟨w.heap.size + 1, 2, none⟩ = some (.int .i64 j2) := cell_of_row _ _ 2 _ _ _ N1
    have c3 : u.cell? ⟨w.heap.size + 1, 3, none⟩ = some (.int .i64 j3) := cell_of_row _ _ 3 _ _ _ N1
    have c4 : u.cell? ⟨w.heap.size + 1, 4, none⟩ = some (.int .i64 j4) := cell_of_row _ _ 4 _ _ _ N1
    clear N1
    go_enter Try.func3, Try.ntmps3
    go_upto_region 1 with fail
    rw [HU.out]
    go_wp2_with fail
    refine (light_any u V A L c 200).mono ?_
    rintro e w1 ⟨rfl, hb⟩
    rw [show decide ((L : Int) ≤ 200) = true by simp; omega]
    have B1' := hide hb
    have t1 : u.heap.size ≤ w1.heap.size := hb.size
    clear hb
    clear g0 g1 c0 c1 c2 c3 c4
    have N0 := (B1'.out.block _ (by omega)).trans M0.out
    have g0 : w1.cell? ⟨w.heap.size, 0, none⟩ = some (.int .i64 V) := cell_of_row _ _ 0 _ _ _ N0
    have g1 : w1.cell? ⟨w.heap.size, 1, none⟩ = some (.slice A L c) := cell_of_row _ _ 1 _ _ _ N0
    clear N0
    have N1 := (B1'.out.block _ (by omega)).trans M1.out
    have c0 : w1.cell? ⟨w.heap.size + 1, 0, none⟩ = some (.int .u8 k) := cell_of_row _ _ 0 _ _ _ N1
    have c1 : w1.cell? ⟨w.heap.size + 1, 1, none⟩ = some (.int .i64 j1) := cell_of_row _ _ 1 _ _ _ N1
    have c2 : w1.cell? ⟨w.heap.size + 1, 2, none⟩ = some (.int .i64 j2) := cell_of_row _ _ 2 _ _ _ N1
    have c3 : w1.cell? ⟨w.heap.size + 1, 3, none⟩ = some (.int .i64 j3) := cell_of_row _ _ 3 _ _ _ N1
    have c4 : w1.cell? ⟨w.heap.size + 1, 4, none⟩ = some (.int .i64 j4) := cell_of_row _ _ 4 _ _ _ N1
    clear N1
    go_wp2_with fail
    have hcl := astart_any w1 k j1 j2 j3 j4 V v0
    rw [HS1.out, HS2.out] at hcl
    refine hcl.mono ?_
    clear hcl
    rintro e w2 ⟨rfl, hb⟩
    have B2' := hide (B1'.out.trans (hb.mono t1))
    have t2 : u.heap.size ≤ w2.heap.size := Nat.le_trans t1 hb.size
    clear hb
    clear g0 g1 c0 c1 c2 c3 c4
    have N0 := (B2'.out.block _ (by omega)).trans M0.out
    have g0 : w2.cell? ⟨w.heap.size, 0, none⟩ = some (.int .i64 V) := cell_of_row _ _ 0 _ _ _ N0
    have g1 : w2.cell? ⟨w.heap.size, 1, none⟩ = some (.slice A L c) := cell_of_row _ _ 1 _ _ _ N0
    clear N0
    have N1 := (B2'.out.block _ (by omega)).trans M1.out
    have c0 : w2.cell? ⟨w.heap.size + 1, 0, none⟩ = some (.int .u8 k) := cell_of_row _ _ 0 _ _ _ N1
    have c1 : w2.cell? ⟨w.heap.size + 1, 1, none⟩ = some (.int .i64 j1) := cell_of_row _ _ 1 _ _ _ N1
    have c2 : w2.cell? ⟨w.heap.size + 1, 2, none⟩ = some (.int .i64 j2) := cell_of_row _ _ 2 _ _ _ N1
    have c3 : w2.cell? ⟨w.heap.size + 1, 3, none⟩ = some (.int .i64 j3) := cell_of_row _ _ 3 _ _ _ N1
    have c4 : w2.cell? ⟨w.heap.size + 1, 4, none⟩ = some (.int .i64 j4) := cell_of_row _ _ 4 _ _ _ N1
    clear N1
    go_wp2_with fail
    have hcl := rastart_any w2 k j1 j2 j3 j4 V v0
    rw [HS1.out, HS2.out] at hcl
    refine hcl.mono ?_
    clear hcl
    rintro e v ⟨rfl, hb⟩
    have B3' := hide (B2'.out.trans (hb.mono t2))
    have t3 : u.heap.size ≤ v.heap.size := Nat.le_trans t2 hb.size
    clear hb
    clear g0 g1 c0 c1 c2 c3 c4
    have N0 := (B3'.out.block _ (by omega)).trans M0.out
    have g0 : v.cell? ⟨w.heap.size, 0, none⟩ = some (.int .i64 V) := cell_of_row _ _ 0 _ _ _ N0
    have g1 : v.cell? ⟨w.heap.size, 1, none⟩ = some (.slice A L c) := cell_of_row _ _ 1 _ _ _ N0
    clear N0
    have N1 := (B3'.out.block _ (by omega)).trans M1.out
    have c0 : v.cell? ⟨w.heap.size + 1, 0, none⟩ = some (.int .u8 k) := cell_of_row _ _ 0 _ _ _ N1
    have c1 : v.cell? ⟨w.heap.size + 1, 1, none⟩ = some (.int .i64 j1) := cell_of_row _ _ 1 _ _ _ N1
    have c2 : v.cell? ⟨w.heap.size + 1, 2, none⟩ = some (.int .i64 j2) := cell_of_row _ _ 2 _ _ _ N1
    have c3 : v.cell? ⟨w.heap.size + 1, 3, none⟩ = some (.int .i64 j3) := cell_of_row _ _ 3 _ _ _ N1
    have c4 : v.cell? ⟨w.heap.size + 1, 4, none⟩ = some (.int .i64 j4) := cell_of_row _ _ 4 _ _ _ N1
    clear N1
    have HE3 := hide (HE.out.next B3'.out)
    have l0 : w.heap.size < v.heap.size := by omega
    have l1 : w.heap.size + 1 < v.heap.size := by omega
    clear t1 t2
    go_upto_region 5 with fail
    refine wp_region_held_drew (S := Kept v) (by kernel_rfl) (Kept.drew v) (fun hS0 => ?_)
    refine take_at (i := 0) (d := 35) (v := ?_) (by simp only [List.getElem?_toArray, List.getElem?_cons_succ, List.getElem?_cons_zero]; rfl) rfl (by kernel_rfl) (by kernel_rfl) (by kernel_rfl) (fun _ _ _ h => h) rfl ?_ (by assumption) ?_
    rotate_left
    focus (intro w hSw; go_simp; (try with_reducible rfl); done)
    try simp only [List.setIfInBounds_toArray, List.set_cons_zero, List.set_cons_succ]
    refine take_at (i := 1) (d := 36) (v := ?_) (by simp only [List.getElem?_toArray, List.getElem?_cons_succ, List.getElem?_cons_zero]; rfl) rfl (by kernel_rfl) (by kernel_rfl) (by kernel_rfl) (fun _ _ _ h => h) rfl ?_ (by assumption) ?_
    rotate_left
    focus (intro w hSw; go_simp; (try with_reducible rfl); done)
    try simp only [List.setIfInBounds_toArray, List.set_cons_zero, List.set_cons_succ]
    refine take_at (i := 3) (d := 38) (v := ?_) (by simp only [List.getElem?_toArray, List.getElem?_cons_succ, List.getElem?_cons_zero]; rfl) rfl (by kernel_rfl) (by kernel_rfl) (by kernel_rfl) (fun _ _ _ h => h) rfl ?_ (by assumption) ?_
    rotate_left
    focus (intro w hSw; go_simp; (try with_reducible rfl); done)
    try simp only [List.setIfInBounds_toArray, List.set_cons_zero, List.set_cons_succ]
    refine take_at (i := 4) (d := 39) (v := ?_) (by simp only [List.getElem?_toArray, List.getElem?_cons_succ, List.getElem?_cons_zero]; rfl) rfl (by kernel_rfl) (by kernel_rfl) (by kernel_rfl) (fun _ _ _ h => h) rfl ?_ (by assumption) ?_
    rotate_left
    focus (intro w hSw; go_simp; (try with_reducible rfl); done)
    try simp only [List.setIfInBounds_toArray, List.set_cons_zero, List.set_cons_succ]
    refine call_at (i := 2) (d := 37) (by simp only [List.getElem?_toArray, List.getElem?_cons_succ, List.getElem?_cons_zero]; rfl) rfl (by kernel_rfl) rfl (fun K hK => ?_)
    go_simp
    have hc := acheck_any v.drew k j1 j2 j3 j4 V A es L c hL (HE3.out.next (below_dr0 _ v)) hc
    rw [HEC.out] at hc
    refine hc.mono ?_
    clear hc
    rintro e z1 ⟨rfl, hz⟩
    have hS1 : Kept v z1 := hS0.below (by simp) hz
    have q1 : v.heap.size ≤ z1.heap.size := by have := hz.size; simpa using this
    have B1 := hide ((below_dr0 v.heap.size v).trans (hz.mono (Nat.le_refl _)))
    clear hz
    go_wp2_with fail
    refine hK.out _ _ hS1 (fun hSn => ?_)
    clear hK K
    try simp only [List.setIfInBounds_toArray, List.set_cons_zero, List.set_cons_succ]
    refine call_at (i := 5) (d := 40) (by simp only [List.getElem?_toArray, List.getElem?_cons_succ, List.getElem?_cons_zero]; rfl) rfl (by kernel_rfl) rfl (fun K hK => ?_)
    go_simp
    have hc := racheck_any z1 k j1 j2 j3 j4 V A es L c hL ((HE3.out.next B1.out)) hc
    rw [HEC.out] at hc
    refine hc.mono ?_
    clear hc
    rintro e z2 ⟨rfl, hz⟩
    have hS2 : Kept v z2 := hS1.below q1 hz
    have q2 : v.heap.size ≤ z2.heap.size := Nat.le_trans q1 hz.size
    have B2 := hide (B1.out.trans (hz.mono q1))
    clear hz
    go_wp2_with fail
    refine hK.out _ _ hS2 (fun hSn => ?_)
    clear hK K
    try simp only [List.setIfInBounds_toArray, List.set_cons_zero, List.set_cons_succ]
    refine take_at (i := 6) (d := 41) (v := ?_) (by simp only [List.getElem?_toArray, List.getElem?_cons_succ, List.getElem?_cons_zero]; rfl) rfl (by kernel_rfl) (by kernel_rfl) (by kernel_rfl) (fun _ _ _ h => h) rfl ?_ (by assumption) ?_
    rotate_left
    focus (intro w hSw; go_simp; (try with_reducible rfl); done)
    try simp only [List.setIfInBounds_toArray, List.set_cons_zero, List.set_cons_succ]
    refine take_at (i := 7) (d := 42) (v := ?_) (by simp only [List.getElem?_toArray, List.getElem?_cons_succ, List.getElem?_cons_zero]; rfl) rfl (by kernel_rfl) (by kernel_rfl) (by kernel_rfl) (fun _ _ _ h => h) rfl ?_ (by assumption) ?_
    rotate_left
    focus (intro w hSw; go_simp; (try with_reducible rfl); done)
    try simp only [List.setIfInBounds_toArray, List.set_cons_zero, List.set_cons_succ]
    refine take_at (i := 8) (d := 43) (v := ?_) (by simp only [List.getElem?_toArray, List.getElem?_cons_succ, List.getElem?_cons_zero]; rfl) rfl (by kernel_rfl) (by kernel_rfl) (by kernel_rfl) (fun _ _ _ h => h) rfl ?_ (by assumption) ?_
    rotate_left
    focus (intro w hSw; go_simp; (try with_reducible rfl); done)
    try simp only [List.setIfInBounds_toArray, List.set_cons_zero, List.set_cons_succ]
    refine take_at (i := 9) (d := 44) (v := ?_) (by simp only [List.getElem?_toArray, List.getElem?_cons_succ, List.getElem?_cons_zero]; rfl) rfl (by kernel_rfl) (by kernel_rfl) (by kernel_rfl) (fun _ _ _ h => h) rfl ?_ (by assumption) ?_
    rotate_left
    focus (intro w hSw; go_simp; (try with_reducible rfl); done)
    try simp only [List.setIfInBounds_toArray, List.set_cons_zero, List.set_cons_succ]
    refine take_at (i := 10) (d := 45) (v := ?_) (by simp only [List.getElem?_toArray, List.getElem?_cons_succ, List.getElem?_cons_zero]; rfl) rfl (by kernel_rfl) (by kernel_rfl) (by kernel_rfl) (fun _ _ _ h => h) rfl ?_ (by assumption) ?_
    rotate_left
    focus (intro w hSw; go_simp; (try with_reducible rfl); done)
    try simp only [List.setIfInBounds_toArray, List.set_cons_zero, List.set_cons_succ]
    refine take_at (i := 11) (d := 46) (v := ?_) (by simp only [List.getElem?_toArray, List.getElem?_cons_succ, List.getElem?_cons_zero]; rfl) rfl (by kernel_rfl) (by kernel_rfl) (by kernel_rfl) (fun _ _ _ h => h) rfl ?_ (by assumption) ?_
    rotate_left
    focus (intro w hSw; go_simp; (try with_reducible rfl); done)
    try simp only [List.setIfInBounds_toArray, List.set_cons_zero, List.set_cons_succ]
    refine take_at (i := 12) (d := 47) (v := ?_) (by simp only [List.getElem?_toArray, List.getElem?_cons_succ, List.getElem?_cons_zero]; rfl) rfl (by kernel_rfl) (by kernel_rfl) (by kernel_rfl) (fun _ _ _ h => h) rfl ?_ (by assumption) ?_
    rotate_left
    focus (intro w hSw; go_simp; (try with_reducible rfl); done)
    try simp only [List.setIfInBounds_toArray, List.set_cons_zero, List.set_cons_succ]
    refine take_at (i := 13) (d := 48) (v := ?_) (by simp only [List.getElem?_toArray, List.getElem?_cons_succ, List.getElem?_cons_zero]; rfl) rfl (by kernel_rfl) (by kernel_rfl) (by kernel_rfl) (fun _ _ _ h => h) rfl ?_ (by assumption) ?_
    rotate_left
    focus (intro w hSw; go_simp; (try with_reducible rfl); done)
    try simp only [List.setIfInBounds_toArray, List.set_cons_zero, List.set_cons_succ]
    refine take_at (i := 14) (d := 49) (v := ?_) (by simp only [List.getElem?_toArray, List.getElem?_cons_succ, List.getElem?_cons_zero]; rfl) rfl (by kernel_rfl) (by kernel_rfl) (by kernel_rfl) (fun _ _ _ h => h) rfl ?_ (by assumption) ?_
    rotate_left
    focus (intro w hSw; go_simp; (try with_reducible rfl); done)
    try simp only [List.setIfInBounds_toArray, List.set_cons_zero, List.set_cons_succ]
    refine take_at (i := 15) (d := 50) (v := ?_) (by simp only [List.getElem?_toArray, List.getElem?_cons_succ, List.getElem?_cons_zero]; rfl) rfl (by kernel_rfl) (by kernel_rfl) (by kernel_rfl) (fun _ _ _ h => h) rfl ?_ (by assumption) ?_
    rotate_left
    focus (intro w hSw; go_simp; (try with_reducible rfl); done)
    try simp only [List.setIfInBounds_toArray, List.set_cons_zero, List.set_cons_succ]
    refine take_at (i := 16) (d := 51) (v := ?_) (by simp only [List.getElem?_toArray, List.getElem?_cons_succ, List.getElem?_cons_zero]; rfl) rfl (by kernel_rfl) (by kernel_rfl) (by kernel_rfl) (fun _ _ _ h => h) rfl ?_ (by assumption) ?_
    rotate_left
    focus (intro w hSw; go_simp; (try with_reducible rfl); done)
    try simp only [List.setIfInBounds_toArray, List.set_cons_zero, List.set_cons_succ]
    refine take_at (i := 17) (d := 52) (v := ?_) (by simp only [List.getElem?_toArray, List.getElem?_cons_succ, List.getElem?_cons_zero]; rfl) rfl (by kernel_rfl) (by kernel_rfl) (by kernel_rfl) (fun _ _ _ h => h) rfl ?_ (by assumption) ?_
    rotate_left
    focus (intro w hSw; go_simp; (try with_reducible rfl); done)
    try simp only [List.setIfInBounds_toArray, List.set_cons_zero, List.set_cons_succ]
    refine take_at (i := 18) (d := 53) (v := ?_) (by simp only [List.getElem?_toArray, List.getElem?_cons_succ, List.getElem?_cons_zero]; rfl) rfl (by kernel_rfl) (by kernel_rfl) (by kernel_rfl) (fun _ _ _ h => h) rfl ?_ (by assumption) ?_
    rotate_left
    focus (intro w hSw; go_simp; (try with_reducible rfl); done)
    try simp only [List.setIfInBounds_toArray, List.set_cons_zero, List.set_cons_succ]
    refine take_at (i := 19) (d := 54) (v := ?_) (by simp only [List.getElem?_toArray, List.getElem?_cons_succ, List.getElem?_cons_zero]; rfl) rfl (by kernel_rfl) (by kernel_rfl) (by kernel_rfl) (fun _ _ _ h => h) rfl ?_ (by assumption) ?_
    rotate_left
    focus (intro w hSw; go_simp; (try with_reducible rfl); done)
    try simp only [List.setIfInBounds_toArray, List.set_cons_zero, List.set_cons_succ]
    refine take_at (i := 20) (d := 55) (v := ?_) (by simp only [List.getElem?_toArray, List.getElem?_cons_succ, List.getElem?_cons_zero]; rfl) rfl (by kernel_rfl) (by kernel_rfl) (by kernel_rfl) (fun _ _ _ h => h) rfl ?_ (by assumption) ?_
    rotate_left
    focus (intro w hSw; go_simp; (try with_reducible rfl); done)
    try simp only [List.setIfInBounds_toArray, List.set_cons_zero, List.set_cons_succ]
    refine take_at (i := 22) (d := 57) (v := ?_) (by simp only [List.getElem?_toArray, List.getElem?_cons_succ, List.getElem?_cons_zero]; rfl) rfl (by kernel_rfl) (by kernel_rfl) (by kernel_rfl) (fun _ _ _ h => h) rfl ?_ (by assumption) ?_
    rotate_left
    focus (intro w hSw; go_simp; (try with_reducible rfl); done)
    try simp only [List.setIfInBounds_toArray, List.set_cons_zero, List.set_cons_succ]
    refine take_at (i := 23) (d := 58) (v := ?_) (by simp only [List.getElem?_toArray, List.getElem?_cons_succ, List.getElem?_cons_zero]; rfl) rfl (by kernel_rfl) (by kernel_rfl) (by kernel_rfl) (fun _ _ _ h => h) rfl ?_ (by assumption) ?_
    rotate_left
    focus (intro w hSw; go_simp; (try with_reducible rfl); done)
    try simp only [List.setIfInBounds_toArray, List.set_cons_zero, List.set_cons_succ]
    refine take_at (i := 24) (d := 59) (v := ?_) (by simp only [List.getElem?_toArray, List.getElem?_cons_succ, List.getElem?_cons_zero]; rfl) rfl (by kernel_rfl) (by kernel_rfl) (by kernel_rfl) (fun _ _ _ h => h) rfl ?_ (by assumption) ?_
    rotate_left
    focus (intro w hSw; go_simp; (try with_reducible rfl); done)
    try simp only [List.setIfInBounds_toArray, List.set_cons_zero, List.set_cons_succ]
    refine call_at (i := 21) (d := 56) (by simp only [List.getElem?_toArray, List.getElem?_cons_succ, List.getElem?_cons_zero]; rfl) rfl (by kernel_rfl) rfl (fun K hK => ?_)
    go_simp
    have hc := done_any z2 k j1 j2 j3 j4 st mo
    rw [HDN.out] at hc
    refine hc.mono ?_
    clear hc
    rintro e z3 ⟨rfl, hz⟩
    have hS3 : Kept v z3 := hS2.below q2 hz
    have q3 : v.heap.size ≤ z3.heap.size := Nat.le_trans q2 hz.size
    have B3 := hide (B2.out.trans (hz.mono q2))
    clear hz
    go_wp2_with fail
    refine hK.out _ _ hS3 (fun hSn => ?_)
    clear hK K
    try simp only [List.setIfInBounds_toArray, List.set_cons_zero, List.set_cons_succ]
    refine call_at (i := 25) (d := 60) (by simp only [List.getElem?_toArray, List.getElem?_cons_succ, List.getElem?_cons_zero]; rfl) rfl (by kernel_rfl) rfl (fun K hK => ?_)
    go_simp
    have hc := rdone_any z3 k j1 j2 j3 j4 st mo
    rw [HDN.out] at hc
    refine hc.mono ?_
    clear hc
    rintro e z4 ⟨rfl, hz⟩
    have hS4 : Kept v z4 := hS3.below q3 hz
    have q4 : v.heap.size ≤ z4.heap.size := Nat.le_trans q3 hz.size
    have B4 := hide (B3.out.trans (hz.mono q3))
    clear hz
    go_wp2_with fail
    refine hK.out _ _ hS4 (fun hSn => ?_)
    clear hK K
    try simp only [List.setIfInBounds_toArray, List.set_cons_zero, List.set_cons_succ]
    refine take_at (i := 26) (d := 61) (v := ?_) (by simp only [List.getElem?_toArray, List.getElem?_cons_succ, List.getElem?_cons_zero]; rfl) rfl (by kernel_rfl) (by kernel_rfl) (by kernel_rfl) (fun _ _ _ h => h) rfl ?_ (by assumption) ?_
    rotate_left
    focus (intro w hSw; go_simp; (try with_reducible rfl); done)
    try simp only [List.setIfInBounds_toArray, List.set_cons_zero, List.set_cons_succ]
    refine take_at (i := 27) (d := 62) (v := ?_) (by simp only [List.getElem?_toArray, List.getElem?_cons_succ, List.getElem?_cons_zero]; rfl) rfl (by kernel_rfl) (by kernel_rfl) (by kernel_rfl) (fun _ _ _ h => h) rfl ?_ (by assumption) ?_
    rotate_left
    focus (intro w hSw; go_simp; (try with_reducible rfl); done)
    try simp only [List.setIfInBounds_toArray, List.set_cons_zero, List.set_cons_succ]
    refine take_at (i := 28) (d := 63) (v := ?_) (by simp only [List.getElem?_toArray, List.getElem?_cons_succ, List.getElem?_cons_zero]; rfl) rfl (by kernel_rfl) (by kernel_rfl) (by kernel_rfl) (fun _ _ _ h => h) rfl ?_ (by assumption) ?_
    rotate_left
    focus (intro w hSw; go_simp; (try with_reducible rfl); done)
    try simp only [List.setIfInBounds_toArray, List.set_cons_zero, List.set_cons_succ]
    refine call_at (i := 29) (d := 64) (by simp only [List.getElem?_toArray, List.getElem?_cons_succ, List.getElem?_cons_zero]; rfl) rfl (by kernel_rfl) rfl (fun K hK => ?_)
    go_simp
    have hc := works_any z4
    refine hc.mono ?_
    clear hc
    rintro e z5 ⟨rfl, hz⟩
    have hS5 : Kept v z5 := hS4.below q4 hz
    have q5 : v.heap.size ≤ z5.heap.size := Nat.le_trans q4 hz.size
    have B5 := hide (B4.out.trans (hz.mono q4))
    clear hz
    go_wp2_with fail
    refine hK.out _ _ hS5 (fun hSn => ?_)
    clear hK K
    try simp only [List.setIfInBounds_toArray, List.set_cons_zero, List.set_cons_succ]
    refine take_at (i := 30) (d := 65) (v := ?_) (by simp only [List.getElem?_toArray, List.getElem?_cons_succ, List.getElem?_cons_zero]; rfl) rfl (by kernel_rfl) (by kernel_rfl) (by kernel_rfl) (fun _ _ _ h => h) rfl ?_ (by assumption) ?_
    rotate_left
    focus (intro w hSw; go_simp; (try with_reducible rfl); done)
    try simp only [List.setIfInBounds_toArray, List.set_cons_zero, List.set_cons_succ]
    refine take_at (i := 31) (d := 10) (v := ?_) (by simp only [List.getElem?_toArray, List.getElem?_cons_succ, List.getElem?_cons_zero]; rfl) rfl (by kernel_rfl) (by kernel_rfl) (by kernel_rfl) (fun _ _ _ h => h) rfl ?_ (by assumption) ?_
    rotate_left
    focus (intro w hSw; go_simp; (try with_reducible rfl); done)
    try simp only [List.setIfInBounds_toArray, List.set_cons_zero, List.set_cons_succ]
    refine wpAnyH_done (by kernel_rfl) ?_ _
    have HF := hide (hbu.out.trans ((B3'.out.trans (B5.out.mono t3)).mono (by omega)))
    go_wp2
    go_ret
    exact ⟨rfl, HF.out⟩
theorem algosCheck_walk (w : World) (V : Int) (A : Option Addr) (es : List Ed) (c : Nat) (hV1 : -9223372036854775808 ≤ V) (hV2 : V ≤ 9223372036854775807) (hE : Eds w w.heap.size A es) (hl : es.length ≤ c) (hc : c ≤ 9223372036854775807) (hB : ∀ e ∈ es, edB e)
    (k j1 j2 j3 j4 : Int) (hk : 0 ≤ k ∧ k ≤ 255) (hj1 : i64B j1) (hj2 : i64B j2) (hj3 : i64B j3) (hj4 : i64B j4) (v0 : Int) (h1 : -9223372036854775808 ≤ v0) (h2 : v0 ≤ 9223372036854775807) (st : Int) (h3 : -9223372036854775808 ≤ st) (h4 : st ≤ 9223372036854775807) (mo : Int) (h5 : -9223372036854775808 ≤ mo) (h6 : mo ≤ 9223372036854775807) :
    Calls Try.prog 3 #[.agg #[.int .i64 V, .slice A es.length c], .agg #[.int .u8 k, .int .i64 j1, .int .i64 j2, .int .i64 j3, .int .i64 j4], .int .i64 v0, .int .i64 st, .int .i64 mo] w fun e w' => e = .returned (.bool true) ∧ Below w.heap.size w w' :=
  algosCheck_go w k j1 j2 j3 j4 V v0 st mo A es es.length c rfl hE (by omega)
end Go.Proofs.Ytihlhkbdgbkafaa

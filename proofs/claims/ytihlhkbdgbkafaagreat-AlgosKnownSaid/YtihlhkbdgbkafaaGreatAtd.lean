/- Join of totals: the document. (printed by gen/atd.py) -/
import Derived.Test.YtihlhkbdgbkafaaGreatAlj
import Derived.Deep.DeepCutAuto
namespace Go.Proofs.YtihlhkbdgbkafaaGreat
open Go.RowKit
set_option linter.unusedVariables false
set_option linter.unusedSimpArgs false
theorem below_dr0 (B : Nat) (u : World) : Below B u u.drew := below_dr (Below.refl _ _)
set_option maxRecDepth 100000 in
set_option maxHeartbeats 4000000 in
theorem rjoin_any (w : World) (k j1 j2 j3 j4 s m q r : Int) : Calls Tryz.prog 26 #[.agg #[.int .u8 k, .int .i64 j1, .int .i64 j2, .int .i64 j3, .int .i64 j4], .agg #[.int .i64 s, .int .i64 m], .agg #[.int .i64 q, .int .i64 r]] w fun e w' => e = .returned (.agg #[.int .i64 (joinF k s m q r).1, .int .i64 (joinF k s m q r).2]) ∧ Below w.heap.size w w' := by
  obtain ⟨u, hu⟩ : ∃ u, ((((w.alloc (.cells #[.int .u8 k, .int .i64 j1, .int .i64 j2, .int .i64 j3, .int .i64 j4] 28)).alloc (.cells #[.int .i64 s, .int .i64 m] 50)).alloc (.cells #[.int .i64 q, .int .i64 r] 50)).alloc (.cells #[.int .i64 0, .int .i64 0] 50)) = u := ⟨_, rfl⟩
  have hzu : w.heap.size + 1 + 1 + 1 < u.heap.size := by rw [← hu]; simp
  have hbu := hide (show Below w.heap.size w u by rw [← hu]; exact (((Below.refl _ _).alloc (Nat.le_refl _) _).alloc (by simp) _).alloc (by simp; omega) _ |>.alloc (by simp; omega) _)
  have M0 := hide (show u.heap[w.heap.size]? = some (Obj.cells #[.int .u8 k, .int .i64 j1, .int .i64 j2, .int .i64 j3, .int .i64 j4] 28) by rw [← hu]; exact heap_alloc_keep (heap_alloc_keep (heap_alloc_keep ((by have h := heap_alloc_last w (.cells #[.int .u8 k, .int .i64 j1, .int .i64 j2, .int .i64 j3, .int .i64 j4] 28); simpa using h)))))
  have M1 := hide (show u.heap[w.heap.size + 1]? = some (Obj.cells #[.int .i64 s, .int .i64 m] 50) by rw [← hu]; exact heap_alloc_keep (heap_alloc_keep ((by have h := heap_alloc_last (w.alloc (.cells #[.int .u8 k, .int .i64 j1, .int .i64 j2, .int .i64 j3, .int .i64 j4] 28)) (.cells #[.int .i64 s, .int .i64 m] 50); simpa using h))))
  have M2 := hide (show u.heap[w.heap.size + 1 + 1]? = some (Obj.cells #[.int .i64 q, .int .i64 r] 50) by rw [← hu]; exact heap_alloc_keep ((by have h := heap_alloc_last ((w.alloc (.cells #[.int .u8 k, .int .i64 j1, .int .i64 j2, .int .i64 j3, .int .i64 j4] 28)).alloc (.cells #[.int .i64 s, .int .i64 m] 50)) (.cells #[.int .i64 q, .int .i64 r] 50); simpa using h)))
  have M3 := hide (show u.heap[w.heap.size + 1 + 1 + 1]? = some (Obj.cells #[.int .i64 0, .int .i64 0] 50) by rw [← hu]; exact (by have h := heap_alloc_last (((w.alloc (.cells #[.int .u8 k, .int .i64 j1, .int .i64 j2, .int .i64 j3, .int .i64 j4] 28)).alloc (.cells #[.int .i64 s, .int .i64 m] 50)).alloc (.cells #[.int .i64 q, .int .i64 r] 50)) (.cells #[.int .i64 0, .int .i64 0] 50); simpa using h))
  have HU := hide hu
  clear hu
  have l0 : w.heap.size < u.heap.size := by omega
  have l1 : w.heap.size + 1 < u.heap.size := by omega
  have l2 : w.heap.size + 1 + 1 < u.heap.size := by omega
  by_cases k1 : k = 1
  · subst k1
    by_cases hlt : m < r
    · have N0 := M0.out
      have c0 : u.cell? ⟨w.heap.size, 0, none⟩ = some (.int .u8 1) := cell_of_row _ _ 0 _ _ _ N0
      have c1 : u.cell? ⟨w.heap.size, 1, none⟩ = some (.int .i64 j1) := cell_of_row _ _ 1 _ _ _ N0
      have c2 : u.cell? ⟨w.heap.size, 2, none⟩ = some (.int .i64 j2) := cell_of_row _ _ 2 _ _ _ N0
      have c3 : u.cell? ⟨w.heap.size, 3, none⟩ = some (.int .i64 j3) := cell_of_row _ _ 3 _ _ _ N0
      have c4 : u.cell? ⟨w.heap.size, 4, none⟩ = some (.int .i64 j4) := cell_of_row _ _ 4 _ _ _ N0
      clear N0
      have d10 : u.cell? ⟨w.heap.size + 1, 0, none⟩ = some (.int .i64 s) := cell_of_row _ _ 0 _ _ _ M1.out
      have d11 : u.cell? ⟨w.heap.size + 1, 1, none⟩ = some (.int .i64 m) := cell_of_row _ _ 1 _ _ _ M1.out
      have d20 : u.cell? ⟨w.heap.size + 1 + 1, 0, none⟩ = some (.int .i64 q) := cell_of_row _ _ 0 _ _ _ M2.out
      have d21 : u.cell? ⟨w.heap.size + 1 + 1, 1, none⟩ = some (.int .i64 r) := cell_of_row _ _ 1 _ _ _ M2.out
      have z0 : u.cell? ⟨w.heap.size + 1 + 1 + 1, 0, none⟩ = some (.int .i64 0) := cell_of_row _ _ 0 _ _ _ M3.out
      have z1 : u.cell? ⟨w.heap.size + 1 + 1 + 1, 1, none⟩ = some (.int .i64 0) := cell_of_row _ _ 1 _ _ _ M3.out
      have zf0 : u.frozen? ⟨w.heap.size + 1 + 1 + 1, 0, none⟩ = false := frozen_of_row _ _ 0 _ _ M3.out
      have zf1 : u.frozen? ⟨w.heap.size + 1 + 1 + 1, 1, none⟩ = false := frozen_of_row _ _ 1 _ _ M3.out
      obtain ⟨f, hf⟩ : ∃ z, (u.setCell ⟨w.heap.size + 1 + 1 + 1, 0, none⟩ (.int .i64 (dadd s q))).setCell ⟨w.heap.size + 1 + 1 + 1, 1, none⟩ (.int .i64 (r)) = z := ⟨_, rfl⟩
      have hfB : Below w.heap.size w f := by rw [← hf]; exact (hbu.out.setCell (p := ⟨w.heap.size + 1 + 1 + 1, 0, none⟩) (by show w.heap.size ≤ w.heap.size + 1 + 1 + 1; omega) _).setCell (p := ⟨w.heap.size + 1 + 1 + 1, 1, none⟩) (by show w.heap.size ≤ w.heap.size + 1 + 1 + 1; omega) _
      have hf2 := heap_setCell_same _ (w.heap.size + 1 + 1 + 1) 1 _ _ (.int .i64 (r)) (heap_setCell_same (u) (w.heap.size + 1 + 1 + 1) 0 _ _ (.int .i64 (dadd s q)) M3.out)
      rw [hf] at hf2
      have y0 : f.cell? ⟨w.heap.size + 1 + 1 + 1, 0, none⟩ = some (.int .i64 (dadd s q)) := cell_of_row _ _ 0 _ _ _ hf2
      have y1 : f.cell? ⟨w.heap.size + 1 + 1 + 1, 1, none⟩ = some (.int .i64 (r)) := cell_of_row _ _ 1 _ _ _ hf2
      have HFin := hide (And.intro hf (And.intro hfB (And.intro y0 y1)))
      clear hf hfB hf2 y0 y1
      go_enter Tryz.func26, Tryz.ntmps26
      go_upto_region 3 with fail
      rw [HU.out]
      refine wpL_region (S := Kept u) [11] (by kernel_rfl) (Kept.drew u) (fun hS0 => ?_)
      refine takeL_at (i := 0) (d := 11) (v := ?_) (by simp only [List.getElem?_toArray, List.getElem?_cons_succ, List.getElem?_cons_zero]; rfl) rfl (by kernel_rfl) (by kernel_rfl) (by kernel_rfl) (by kernel_rfl) (fun _ _ _ h => h) rfl ?_ (by assumption) ?_
      rotate_left
      focus (intro w hSw; go_simp; (try with_reducible rfl); done)
      try simp only [List.setIfInBounds_toArray, List.set_cons_zero, List.set_cons_succ]
      refine takeL_at (i := 1) (d := 12) (v := ?_) (by simp only [List.getElem?_toArray, List.getElem?_cons_succ, List.getElem?_cons_zero]; rfl) rfl (by kernel_rfl) (by kernel_rfl) (by kernel_rfl) (by kernel_rfl) (fun _ _ _ h => h) rfl ?_ (by assumption) ?_
      rotate_left
      focus (intro w hSw; go_simp; (try with_reducible rfl); done)
      try simp only [List.setIfInBounds_toArray, List.set_cons_zero, List.set_cons_succ]
      refine takeL_at (i := 2) (d := 13) (v := ?_) (by simp only [List.getElem?_toArray, List.getElem?_cons_succ, List.getElem?_cons_zero]; rfl) rfl (by kernel_rfl) (by kernel_rfl) (by kernel_rfl) (by kernel_rfl) (fun _ _ _ h => h) rfl ?_ (by assumption) ?_
      rotate_left
      focus (intro w hSw; go_simp; (try with_reducible rfl); done)
      try simp only [List.setIfInBounds_toArray, List.set_cons_zero, List.set_cons_succ]
      refine takeL_at (i := 3) (d := 14) (v := ?_) (by simp only [List.getElem?_toArray, List.getElem?_cons_succ, List.getElem?_cons_zero]; rfl) rfl (by kernel_rfl) (by kernel_rfl) (by kernel_rfl) (by kernel_rfl) (fun _ _ _ h => h) rfl ?_ (by assumption) ?_
      rotate_left
      focus (intro w hSw; go_simp; (try with_reducible rfl); done)
      try simp only [List.setIfInBounds_toArray, List.set_cons_zero, List.set_cons_succ]
      refine takeL_at (i := 5) (d := 16) (v := ?_) (by simp only [List.getElem?_toArray, List.getElem?_cons_succ, List.getElem?_cons_zero]; rfl) rfl (by kernel_rfl) (by kernel_rfl) (by kernel_rfl) (by kernel_rfl) (fun _ _ _ h => h) rfl ?_ (by assumption) ?_
      rotate_left
      focus (intro w hSw; go_simp; (try with_reducible rfl); done)
      try simp only [List.setIfInBounds_toArray, List.set_cons_zero, List.set_cons_succ]
      refine takeL_at (i := 6) (d := 17) (v := ?_) (by simp only [List.getElem?_toArray, List.getElem?_cons_succ, List.getElem?_cons_zero]; rfl) rfl (by kernel_rfl) (by kernel_rfl) (by kernel_rfl) (by kernel_rfl) (fun _ _ _ h => h) rfl ?_ (by assumption) ?_
      rotate_left
      focus (intro w hSw; go_simp; (try with_reducible rfl); done)
      try simp only [List.setIfInBounds_toArray, List.set_cons_zero, List.set_cons_succ]
      refine takeL_at (i := 7) (d := 18) (v := ?_) (by simp only [List.getElem?_toArray, List.getElem?_cons_succ, List.getElem?_cons_zero]; rfl) rfl (by kernel_rfl) (by kernel_rfl) (by kernel_rfl) (by kernel_rfl) (fun _ _ _ h => h) rfl ?_ (by assumption) ?_
      rotate_left
      focus (intro w hSw; go_simp; (try with_reducible rfl); done)
      try simp only [List.setIfInBounds_toArray, List.set_cons_zero, List.set_cons_succ]
      refine takeL_at (i := 8) (d := 19) (v := ?_) (by simp only [List.getElem?_toArray, List.getElem?_cons_succ, List.getElem?_cons_zero]; rfl) rfl (by kernel_rfl) (by kernel_rfl) (by kernel_rfl) (by kernel_rfl) (fun _ _ _ h => h) rfl ?_ (by assumption) ?_
      rotate_left
      focus (intro w hSw; go_simp; (try with_reducible rfl); done)
      try simp only [List.setIfInBounds_toArray, List.set_cons_zero, List.set_cons_succ]
      refine takeL_at (i := 9) (d := 20) (v := ?_) (by simp only [List.getElem?_toArray, List.getElem?_cons_succ, List.getElem?_cons_zero]; rfl) rfl (by kernel_rfl) (by kernel_rfl) (by kernel_rfl) (by kernel_rfl) (fun _ _ _ h => h) rfl ?_ (by assumption) ?_
      rotate_left
      focus (intro w hSw; go_simp; (try with_reducible rfl); done)
      try simp only [List.setIfInBounds_toArray, List.set_cons_zero, List.set_cons_succ]
      refine callL_at (i := 4) (d := 15) (by simp only [List.getElem?_toArray, List.getElem?_cons_succ, List.getElem?_cons_zero]; rfl) rfl (by kernel_rfl) rfl (fun K hK => ?_)
      go_simp
      refine (radd_any _ s q).mono ?_
      rintro e z1 ⟨rfl, rfl⟩
      go_wp2_with fail
      refine hK.out _ _ hS0 (fun hSn => ?_)
      clear hK K
      try simp only [List.setIfInBounds_toArray, List.set_cons_zero, List.set_cons_succ]
      refine takeL_at (i := 10) (d := 21) (v := ?_) (by simp only [List.getElem?_toArray, List.getElem?_cons_succ, List.getElem?_cons_zero]; rfl) rfl (by kernel_rfl) (by kernel_rfl) (by kernel_rfl) (by kernel_rfl) (fun _ _ _ h => h) rfl ?_ (by assumption) ?_
      rotate_left
      focus (intro w hSw; go_simp; (try with_reducible rfl); done)
      try simp only [List.setIfInBounds_toArray, List.set_cons_zero, List.set_cons_succ]
      refine exL_at (i := 11) (by simp only [List.getElem?_toArray, List.getElem?_cons_succ, List.getElem?_cons_zero]; rfl) (by kernel_rfl) rfl (by kernel_rfl) (fun K hK => ?_)
      go_wp2_with fail
      refine hK.out _ _ ?_
      clear hK K
      try simp only [List.setIfInBounds_toArray, List.set_cons_zero, List.set_cons_succ]
      refine wpAnyL_done (by kernel_rfl) ?_ _
      go_wp2
      obtain ⟨hf, hfB, y0', y1'⟩ := HFin.out
      rw [hf]
      have y0 : f.drew.cell? ⟨w.heap.size + 1 + 1 + 1, 0, none⟩ = some (.int .i64 (dadd s q)) := y0'
      have y1 : f.drew.cell? ⟨w.heap.size + 1 + 1 + 1, 1, none⟩ = some (.int .i64 (r)) := y1'
      clear y0' y1'
      exact bodyPost_ret (v := .agg #[.int .i64 (dadd s q), .int .i64 (r)]) (by simp [results, Tryz.results26, go_sem, y0, y1]) rfl ⟨by rw [show joinF 1 s m q r = (dadd s q, r) by simp [joinF]; omega], hfB.trans (below_dr0 _ f)⟩
    · have N0 := M0.out
      have c0 : u.cell? ⟨w.heap.size, 0, none⟩ = some (.int .u8 1) := cell_of_row _ _ 0 _ _ _ N0
      have c1 : u.cell? ⟨w.heap.size, 1, none⟩ = some (.int .i64 j1) := cell_of_row _ _ 1 _ _ _ N0
      have c2 : u.cell? ⟨w.heap.size, 2, none⟩ = some (.int .i64 j2) := cell_of_row _ _ 2 _ _ _ N0
      have c3 : u.cell? ⟨w.heap.size, 3, none⟩ = some (.int .i64 j3) := cell_of_row _ _ 3 _ _ _ N0
      have c4 : u.cell? ⟨w.heap.size, 4, none⟩ = some (.int .i64 j4) := cell_of_row _ _ 4 _ _ _ N0
      clear N0
      have d10 : u.cell? ⟨w.heap.size + 1, 0, none⟩ = some (.int .i64 s) := cell_of_row _ _ 0 _ _ _ M1.out
      have d11 : u.cell? ⟨w.heap.size + 1, 1, none⟩ = some (.int .i64 m) := cell_of_row _ _ 1 _ _ _ M1.out
      have d20 : u.cell? ⟨w.heap.size + 1 + 1, 0, none⟩ = some (.int .i64 q) := cell_of_row _ _ 0 _ _ _ M2.out
      have d21 : u.cell? ⟨w.heap.size + 1 + 1, 1, none⟩ = some (.int .i64 r) := cell_of_row _ _ 1 _ _ _ M2.out
      have z0 : u.cell? ⟨w.heap.size + 1 + 1 + 1, 0, none⟩ = some (.int .i64 0) := cell_of_row _ _ 0 _ _ _ M3.out
      have z1 : u.cell? ⟨w.heap.size + 1 + 1 + 1, 1, none⟩ = some (.int .i64 0) := cell_of_row _ _ 1 _ _ _ M3.out
      have zf0 : u.frozen? ⟨w.heap.size + 1 + 1 + 1, 0, none⟩ = false := frozen_of_row _ _ 0 _ _ M3.out
      have zf1 : u.frozen? ⟨w.heap.size + 1 + 1 + 1, 1, none⟩ = false := frozen_of_row _ _ 1 _ _ M3.out
      obtain ⟨f, hf⟩ : ∃ z, (u.setCell ⟨w.heap.size + 1 + 1 + 1, 0, none⟩ (.int .i64 (dadd s q))).setCell ⟨w.heap.size + 1 + 1 + 1, 1, none⟩ (.int .i64 (m)) = z := ⟨_, rfl⟩
      have hfB : Below w.heap.size w f := by rw [← hf]; exact (hbu.out.setCell (p := ⟨w.heap.size + 1 + 1 + 1, 0, none⟩) (by show w.heap.size ≤ w.heap.size + 1 + 1 + 1; omega) _).setCell (p := ⟨w.heap.size + 1 + 1 + 1, 1, none⟩) (by show w.heap.size ≤ w.heap.size + 1 + 1 + 1; omega) _
      have hf2 := heap_setCell_same _ (w.heap.size + 1 + 1 + 1) 1 _ _ (.int .i64 (m)) (heap_setCell_same (u) (w.heap.size + 1 + 1 + 1) 0 _ _ (.int .i64 (dadd s q)) M3.out)
      rw [hf] at hf2
      have y0 : f.cell? ⟨w.heap.size + 1 + 1 + 1, 0, none⟩ = some (.int .i64 (dadd s q)) := cell_of_row _ _ 0 _ _ _ hf2
      have y1 : f.cell? ⟨w.heap.size + 1 + 1 + 1, 1, none⟩ = some (.int .i64 (m)) := cell_of_row _ _ 1 _ _ _ hf2
      have HFin := hide (And.intro hf (And.intro hfB (And.intro y0 y1)))
      clear hf hfB hf2 y0 y1
      go_enter Tryz.func26, Tryz.ntmps26
      go_upto_region 3 with fail
      rw [HU.out]
      refine wpL_region (S := Kept u) [11] (by kernel_rfl) (Kept.drew u) (fun hS0 => ?_)
      refine takeL_at (i := 0) (d := 11) (v := ?_) (by simp only [List.getElem?_toArray, List.getElem?_cons_succ, List.getElem?_cons_zero]; rfl) rfl (by kernel_rfl) (by kernel_rfl) (by kernel_rfl) (by kernel_rfl) (fun _ _ _ h => h) rfl ?_ (by assumption) ?_
      rotate_left
      focus (intro w hSw; go_simp; (try with_reducible rfl); done)
      try simp only [List.setIfInBounds_toArray, List.set_cons_zero, List.set_cons_succ]
      refine takeL_at (i := 1) (d := 12) (v := ?_) (by simp only [List.getElem?_toArray, List.getElem?_cons_succ, List.getElem?_cons_zero]; rfl) rfl (by kernel_rfl) (by kernel_rfl) (by kernel_rfl) (by kernel_rfl) (fun _ _ _ h => h) rfl ?_ (by assumption) ?_
      rotate_left
      focus (intro w hSw; go_simp; (try with_reducible rfl); done)
      try simp only [List.setIfInBounds_toArray, List.set_cons_zero, List.set_cons_succ]
      refine takeL_at (i := 2) (d := 13) (v := ?_) (by simp only [List.getElem?_toArray, List.getElem?_cons_succ, List.getElem?_cons_zero]; rfl) rfl (by kernel_rfl) (by kernel_rfl) (by kernel_rfl) (by kernel_rfl) (fun _ _ _ h => h) rfl ?_ (by assumption) ?_
      rotate_left
      focus (intro w hSw; go_simp; (try with_reducible rfl); done)
      try simp only [List.setIfInBounds_toArray, List.set_cons_zero, List.set_cons_succ]
      refine takeL_at (i := 3) (d := 14) (v := ?_) (by simp only [List.getElem?_toArray, List.getElem?_cons_succ, List.getElem?_cons_zero]; rfl) rfl (by kernel_rfl) (by kernel_rfl) (by kernel_rfl) (by kernel_rfl) (fun _ _ _ h => h) rfl ?_ (by assumption) ?_
      rotate_left
      focus (intro w hSw; go_simp; (try with_reducible rfl); done)
      try simp only [List.setIfInBounds_toArray, List.set_cons_zero, List.set_cons_succ]
      refine takeL_at (i := 5) (d := 16) (v := ?_) (by simp only [List.getElem?_toArray, List.getElem?_cons_succ, List.getElem?_cons_zero]; rfl) rfl (by kernel_rfl) (by kernel_rfl) (by kernel_rfl) (by kernel_rfl) (fun _ _ _ h => h) rfl ?_ (by assumption) ?_
      rotate_left
      focus (intro w hSw; go_simp; (try with_reducible rfl); done)
      try simp only [List.setIfInBounds_toArray, List.set_cons_zero, List.set_cons_succ]
      refine takeL_at (i := 6) (d := 17) (v := ?_) (by simp only [List.getElem?_toArray, List.getElem?_cons_succ, List.getElem?_cons_zero]; rfl) rfl (by kernel_rfl) (by kernel_rfl) (by kernel_rfl) (by kernel_rfl) (fun _ _ _ h => h) rfl ?_ (by assumption) ?_
      rotate_left
      focus (intro w hSw; go_simp; (try with_reducible rfl); done)
      try simp only [List.setIfInBounds_toArray, List.set_cons_zero, List.set_cons_succ]
      refine takeL_at (i := 7) (d := 18) (v := ?_) (by simp only [List.getElem?_toArray, List.getElem?_cons_succ, List.getElem?_cons_zero]; rfl) rfl (by kernel_rfl) (by kernel_rfl) (by kernel_rfl) (by kernel_rfl) (fun _ _ _ h => h) rfl ?_ (by assumption) ?_
      rotate_left
      focus (intro w hSw; go_simp; (try with_reducible rfl); done)
      try simp only [List.setIfInBounds_toArray, List.set_cons_zero, List.set_cons_succ]
      refine takeL_at (i := 8) (d := 19) (v := ?_) (by simp only [List.getElem?_toArray, List.getElem?_cons_succ, List.getElem?_cons_zero]; rfl) rfl (by kernel_rfl) (by kernel_rfl) (by kernel_rfl) (by kernel_rfl) (fun _ _ _ h => h) rfl ?_ (by assumption) ?_
      rotate_left
      focus (intro w hSw; go_simp; (try with_reducible rfl); done)
      try simp only [List.setIfInBounds_toArray, List.set_cons_zero, List.set_cons_succ]
      refine takeL_at (i := 9) (d := 20) (v := ?_) (by simp only [List.getElem?_toArray, List.getElem?_cons_succ, List.getElem?_cons_zero]; rfl) rfl (by kernel_rfl) (by kernel_rfl) (by kernel_rfl) (by kernel_rfl) (fun _ _ _ h => h) rfl ?_ (by assumption) ?_
      rotate_left
      focus (intro w hSw; go_simp; (try with_reducible rfl); done)
      try simp only [List.setIfInBounds_toArray, List.set_cons_zero, List.set_cons_succ]
      refine callL_at (i := 4) (d := 15) (by simp only [List.getElem?_toArray, List.getElem?_cons_succ, List.getElem?_cons_zero]; rfl) rfl (by kernel_rfl) rfl (fun K hK => ?_)
      go_simp
      refine (radd_any _ s q).mono ?_
      rintro e z1 ⟨rfl, rfl⟩
      go_wp2_with fail
      refine hK.out _ _ hS0 (fun hSn => ?_)
      clear hK K
      try simp only [List.setIfInBounds_toArray, List.set_cons_zero, List.set_cons_succ]
      refine takeL_at (i := 10) (d := 21) (v := ?_) (by simp only [List.getElem?_toArray, List.getElem?_cons_succ, List.getElem?_cons_zero]; rfl) rfl (by kernel_rfl) (by kernel_rfl) (by kernel_rfl) (by kernel_rfl) (fun _ _ _ h => h) rfl ?_ (by assumption) ?_
      rotate_left
      focus (intro w hSw; go_simp; (try with_reducible rfl); done)
      try simp only [List.setIfInBounds_toArray, List.set_cons_zero, List.set_cons_succ]
      refine exL_at (i := 11) (by simp only [List.getElem?_toArray, List.getElem?_cons_succ, List.getElem?_cons_zero]; rfl) (by kernel_rfl) rfl (by kernel_rfl) (fun K hK => ?_)
      go_wp2_with fail
      refine hK.out _ _ ?_
      clear hK K
      try simp only [List.setIfInBounds_toArray, List.set_cons_zero, List.set_cons_succ]
      refine wpAnyL_done (by kernel_rfl) ?_ _
      go_wp2
      obtain ⟨hf, hfB, y0', y1'⟩ := HFin.out
      rw [hf]
      have y0 : f.drew.cell? ⟨w.heap.size + 1 + 1 + 1, 0, none⟩ = some (.int .i64 (dadd s q)) := y0'
      have y1 : f.drew.cell? ⟨w.heap.size + 1 + 1 + 1, 1, none⟩ = some (.int .i64 (m)) := y1'
      clear y0' y1'
      exact bodyPost_ret (v := .agg #[.int .i64 (dadd s q), .int .i64 (m)]) (by simp [results, Tryz.results26, go_sem, y0, y1]) rfl ⟨by rw [show joinF 1 s m q r = (dadd s q, m) by simp [joinF]; omega], hfB.trans (below_dr0 _ f)⟩
  by_cases k2 : k = 2
  · subst k2
    have N0 := M0.out
    have c0 : u.cell? ⟨w.heap.size, 0, none⟩ = some (.int .u8 2) := cell_of_row _ _ 0 _ _ _ N0
    have c1 : u.cell? ⟨w.heap.size, 1, none⟩ = some (.int .i64 j1) := cell_of_row _ _ 1 _ _ _ N0
    have c2 : u.cell? ⟨w.heap.size, 2, none⟩ = some (.int .i64 j2) := cell_of_row _ _ 2 _ _ _ N0
    have c3 : u.cell? ⟨w.heap.size, 3, none⟩ = some (.int .i64 j3) := cell_of_row _ _ 3 _ _ _ N0
    have c4 : u.cell? ⟨w.heap.size, 4, none⟩ = some (.int .i64 j4) := cell_of_row _ _ 4 _ _ _ N0
    clear N0
    have d10 : u.cell? ⟨w.heap.size + 1, 0, none⟩ = some (.int .i64 s) := cell_of_row _ _ 0 _ _ _ M1.out
    have d11 : u.cell? ⟨w.heap.size + 1, 1, none⟩ = some (.int .i64 m) := cell_of_row _ _ 1 _ _ _ M1.out
    have d20 : u.cell? ⟨w.heap.size + 1 + 1, 0, none⟩ = some (.int .i64 q) := cell_of_row _ _ 0 _ _ _ M2.out
    have d21 : u.cell? ⟨w.heap.size + 1 + 1, 1, none⟩ = some (.int .i64 r) := cell_of_row _ _ 1 _ _ _ M2.out
    have z0 : u.cell? ⟨w.heap.size + 1 + 1 + 1, 0, none⟩ = some (.int .i64 0) := cell_of_row _ _ 0 _ _ _ M3.out
    have z1 : u.cell? ⟨w.heap.size + 1 + 1 + 1, 1, none⟩ = some (.int .i64 0) := cell_of_row _ _ 1 _ _ _ M3.out
    have zf0 : u.frozen? ⟨w.heap.size + 1 + 1 + 1, 0, none⟩ = false := frozen_of_row _ _ 0 _ _ M3.out
    have zf1 : u.frozen? ⟨w.heap.size + 1 + 1 + 1, 1, none⟩ = false := frozen_of_row _ _ 1 _ _ M3.out
    obtain ⟨f, hf⟩ : ∃ z, (u.setCell ⟨w.heap.size + 1 + 1 + 1, 0, none⟩ (.int .i64 (dadd s q))).setCell ⟨w.heap.size + 1 + 1 + 1, 1, none⟩ (.int .i64 (dadd m r)) = z := ⟨_, rfl⟩
    have hfB : Below w.heap.size w f := by rw [← hf]; exact (hbu.out.setCell (p := ⟨w.heap.size + 1 + 1 + 1, 0, none⟩) (by show w.heap.size ≤ w.heap.size + 1 + 1 + 1; omega) _).setCell (p := ⟨w.heap.size + 1 + 1 + 1, 1, none⟩) (by show w.heap.size ≤ w.heap.size + 1 + 1 + 1; omega) _
    have hf2 := heap_setCell_same _ (w.heap.size + 1 + 1 + 1) 1 _ _ (.int .i64 (dadd m r)) (heap_setCell_same (u) (w.heap.size + 1 + 1 + 1) 0 _ _ (.int .i64 (dadd s q)) M3.out)
    rw [hf] at hf2
    have y0 : f.cell? ⟨w.heap.size + 1 + 1 + 1, 0, none⟩ = some (.int .i64 (dadd s q)) := cell_of_row _ _ 0 _ _ _ hf2
    have y1 : f.cell? ⟨w.heap.size + 1 + 1 + 1, 1, none⟩ = some (.int .i64 (dadd m r)) := cell_of_row _ _ 1 _ _ _ hf2
    have HFin := hide (And.intro hf (And.intro hfB (And.intro y0 y1)))
    clear hf hfB hf2 y0 y1
    go_enter Tryz.func26, Tryz.ntmps26
    go_upto_region 6 with fail
    rw [HU.out]
    refine wpL_region (S := Kept u) [11] (by kernel_rfl) (Kept.drew u) (fun hS0 => ?_)
    refine takeL_at (i := 0) (d := 25) (v := ?_) (by simp only [List.getElem?_toArray, List.getElem?_cons_succ, List.getElem?_cons_zero]; rfl) rfl (by kernel_rfl) (by kernel_rfl) (by kernel_rfl) (by kernel_rfl) (fun _ _ _ h => h) rfl ?_ (by assumption) ?_
    rotate_left
    focus (intro w hSw; go_simp; (try with_reducible rfl); done)
    try simp only [List.setIfInBounds_toArray, List.set_cons_zero, List.set_cons_succ]
    refine takeL_at (i := 1) (d := 26) (v := ?_) (by simp only [List.getElem?_toArray, List.getElem?_cons_succ, List.getElem?_cons_zero]; rfl) rfl (by kernel_rfl) (by kernel_rfl) (by kernel_rfl) (by kernel_rfl) (fun _ _ _ h => h) rfl ?_ (by assumption) ?_
    rotate_left
    focus (intro w hSw; go_simp; (try with_reducible rfl); done)
    try simp only [List.setIfInBounds_toArray, List.set_cons_zero, List.set_cons_succ]
    refine takeL_at (i := 2) (d := 27) (v := ?_) (by simp only [List.getElem?_toArray, List.getElem?_cons_succ, List.getElem?_cons_zero]; rfl) rfl (by kernel_rfl) (by kernel_rfl) (by kernel_rfl) (by kernel_rfl) (fun _ _ _ h => h) rfl ?_ (by assumption) ?_
    rotate_left
    focus (intro w hSw; go_simp; (try with_reducible rfl); done)
    try simp only [List.setIfInBounds_toArray, List.set_cons_zero, List.set_cons_succ]
    refine takeL_at (i := 3) (d := 28) (v := ?_) (by simp only [List.getElem?_toArray, List.getElem?_cons_succ, List.getElem?_cons_zero]; rfl) rfl (by kernel_rfl) (by kernel_rfl) (by kernel_rfl) (by kernel_rfl) (fun _ _ _ h => h) rfl ?_ (by assumption) ?_
    rotate_left
    focus (intro w hSw; go_simp; (try with_reducible rfl); done)
    try simp only [List.setIfInBounds_toArray, List.set_cons_zero, List.set_cons_succ]
    refine takeL_at (i := 5) (d := 30) (v := ?_) (by simp only [List.getElem?_toArray, List.getElem?_cons_succ, List.getElem?_cons_zero]; rfl) rfl (by kernel_rfl) (by kernel_rfl) (by kernel_rfl) (by kernel_rfl) (fun _ _ _ h => h) rfl ?_ (by assumption) ?_
    rotate_left
    focus (intro w hSw; go_simp; (try with_reducible rfl); done)
    try simp only [List.setIfInBounds_toArray, List.set_cons_zero, List.set_cons_succ]
    refine takeL_at (i := 6) (d := 31) (v := ?_) (by simp only [List.getElem?_toArray, List.getElem?_cons_succ, List.getElem?_cons_zero]; rfl) rfl (by kernel_rfl) (by kernel_rfl) (by kernel_rfl) (by kernel_rfl) (fun _ _ _ h => h) rfl ?_ (by assumption) ?_
    rotate_left
    focus (intro w hSw; go_simp; (try with_reducible rfl); done)
    try simp only [List.setIfInBounds_toArray, List.set_cons_zero, List.set_cons_succ]
    refine takeL_at (i := 7) (d := 32) (v := ?_) (by simp only [List.getElem?_toArray, List.getElem?_cons_succ, List.getElem?_cons_zero]; rfl) rfl (by kernel_rfl) (by kernel_rfl) (by kernel_rfl) (by kernel_rfl) (fun _ _ _ h => h) rfl ?_ (by assumption) ?_
    rotate_left
    focus (intro w hSw; go_simp; (try with_reducible rfl); done)
    try simp only [List.setIfInBounds_toArray, List.set_cons_zero, List.set_cons_succ]
    refine takeL_at (i := 8) (d := 33) (v := ?_) (by simp only [List.getElem?_toArray, List.getElem?_cons_succ, List.getElem?_cons_zero]; rfl) rfl (by kernel_rfl) (by kernel_rfl) (by kernel_rfl) (by kernel_rfl) (fun _ _ _ h => h) rfl ?_ (by assumption) ?_
    rotate_left
    focus (intro w hSw; go_simp; (try with_reducible rfl); done)
    try simp only [List.setIfInBounds_toArray, List.set_cons_zero, List.set_cons_succ]
    refine callL_at (i := 4) (d := 29) (by simp only [List.getElem?_toArray, List.getElem?_cons_succ, List.getElem?_cons_zero]; rfl) rfl (by kernel_rfl) rfl (fun K hK => ?_)
    go_simp
    refine (radd_any _ s q).mono ?_
    rintro e z1 ⟨rfl, rfl⟩
    go_wp2_with fail
    refine hK.out _ _ hS0 (fun hSn => ?_)
    clear hK K
    try simp only [List.setIfInBounds_toArray, List.set_cons_zero, List.set_cons_succ]
    refine callL_at (i := 9) (d := 34) (by simp only [List.getElem?_toArray, List.getElem?_cons_succ, List.getElem?_cons_zero]; rfl) rfl (by kernel_rfl) rfl (fun K hK => ?_)
    go_simp
    refine (radd_any _ m r).mono ?_
    rintro e z1 ⟨rfl, rfl⟩
    go_wp2_with fail
    refine hK.out _ _ hS0 (fun hSn => ?_)
    clear hK K
    try simp only [List.setIfInBounds_toArray, List.set_cons_zero, List.set_cons_succ]
    refine takeL_at (i := 10) (d := 35) (v := ?_) (by simp only [List.getElem?_toArray, List.getElem?_cons_succ, List.getElem?_cons_zero]; rfl) rfl (by kernel_rfl) (by kernel_rfl) (by kernel_rfl) (by kernel_rfl) (fun _ _ _ h => h) rfl ?_ (by assumption) ?_
    rotate_left
    focus (intro w hSw; go_simp; (try with_reducible rfl); done)
    try simp only [List.setIfInBounds_toArray, List.set_cons_zero, List.set_cons_succ]
    refine exL_at (i := 11) (by simp only [List.getElem?_toArray, List.getElem?_cons_succ, List.getElem?_cons_zero]; rfl) (by kernel_rfl) rfl (by kernel_rfl) (fun K hK => ?_)
    go_wp2_with fail
    refine hK.out _ _ ?_
    clear hK K
    try simp only [List.setIfInBounds_toArray, List.set_cons_zero, List.set_cons_succ]
    refine wpAnyL_done (by kernel_rfl) ?_ _
    go_wp2
    obtain ⟨hf, hfB, y0', y1'⟩ := HFin.out
    rw [hf]
    have y0 : f.drew.cell? ⟨w.heap.size + 1 + 1 + 1, 0, none⟩ = some (.int .i64 (dadd s q)) := y0'
    have y1 : f.drew.cell? ⟨w.heap.size + 1 + 1 + 1, 1, none⟩ = some (.int .i64 (dadd m r)) := y1'
    clear y0' y1'
    exact bodyPost_ret (v := .agg #[.int .i64 (dadd s q), .int .i64 (dadd m r)]) (by simp [results, Tryz.results26, go_sem, y0, y1]) rfl ⟨by simp [joinF], hfB.trans (below_dr0 _ f)⟩
  by_cases k3 : k = 3
  · subst k3
    have N0 := M0.out
    have c0 : u.cell? ⟨w.heap.size, 0, none⟩ = some (.int .u8 3) := cell_of_row _ _ 0 _ _ _ N0
    have c1 : u.cell? ⟨w.heap.size, 1, none⟩ = some (.int .i64 j1) := cell_of_row _ _ 1 _ _ _ N0
    have c2 : u.cell? ⟨w.heap.size, 2, none⟩ = some (.int .i64 j2) := cell_of_row _ _ 2 _ _ _ N0
    have c3 : u.cell? ⟨w.heap.size, 3, none⟩ = some (.int .i64 j3) := cell_of_row _ _ 3 _ _ _ N0
    have c4 : u.cell? ⟨w.heap.size, 4, none⟩ = some (.int .i64 j4) := cell_of_row _ _ 4 _ _ _ N0
    clear N0
    have d10 : u.cell? ⟨w.heap.size + 1, 0, none⟩ = some (.int .i64 s) := cell_of_row _ _ 0 _ _ _ M1.out
    have d11 : u.cell? ⟨w.heap.size + 1, 1, none⟩ = some (.int .i64 m) := cell_of_row _ _ 1 _ _ _ M1.out
    have d20 : u.cell? ⟨w.heap.size + 1 + 1, 0, none⟩ = some (.int .i64 q) := cell_of_row _ _ 0 _ _ _ M2.out
    have d21 : u.cell? ⟨w.heap.size + 1 + 1, 1, none⟩ = some (.int .i64 r) := cell_of_row _ _ 1 _ _ _ M2.out
    have z0 : u.cell? ⟨w.heap.size + 1 + 1 + 1, 0, none⟩ = some (.int .i64 0) := cell_of_row _ _ 0 _ _ _ M3.out
    have z1 : u.cell? ⟨w.heap.size + 1 + 1 + 1, 1, none⟩ = some (.int .i64 0) := cell_of_row _ _ 1 _ _ _ M3.out
    have zf0 : u.frozen? ⟨w.heap.size + 1 + 1 + 1, 0, none⟩ = false := frozen_of_row _ _ 0 _ _ M3.out
    have zf1 : u.frozen? ⟨w.heap.size + 1 + 1 + 1, 1, none⟩ = false := frozen_of_row _ _ 1 _ _ M3.out
    obtain ⟨f, hf⟩ : ∃ z, (u.setCell ⟨w.heap.size + 1 + 1 + 1, 0, none⟩ (.int .i64 (dadd s q))).setCell ⟨w.heap.size + 1 + 1 + 1, 1, none⟩ (.int .i64 (dadd m r)) = z := ⟨_, rfl⟩
    have hfB : Below w.heap.size w f := by rw [← hf]; exact (hbu.out.setCell (p := ⟨w.heap.size + 1 + 1 + 1, 0, none⟩) (by show w.heap.size ≤ w.heap.size + 1 + 1 + 1; omega) _).setCell (p := ⟨w.heap.size + 1 + 1 + 1, 1, none⟩) (by show w.heap.size ≤ w.heap.size + 1 + 1 + 1; omega) _
    have hf2 := heap_setCell_same _ (w.heap.size + 1 + 1 + 1) 1 _ _ (.int .i64 (dadd m r)) (heap_setCell_same (u) (w.heap.size + 1 + 1 + 1) 0 _ _ (.int .i64 (dadd s q)) M3.out)
    rw [hf] at hf2
    have y0 : f.cell? ⟨w.heap.size + 1 + 1 + 1, 0, none⟩ = some (.int .i64 (dadd s q)) := cell_of_row _ _ 0 _ _ _ hf2
    have y1 : f.cell? ⟨w.heap.size + 1 + 1 + 1, 1, none⟩ = some (.int .i64 (dadd m r)) := cell_of_row _ _ 1 _ _ _ hf2
    have HFin := hide (And.intro hf (And.intro hfB (And.intro y0 y1)))
    clear hf hfB hf2 y0 y1
    go_enter Tryz.func26, Tryz.ntmps26
    go_upto_region 6 with fail
    rw [HU.out]
    refine wpL_region (S := Kept u) [11] (by kernel_rfl) (Kept.drew u) (fun hS0 => ?_)
    refine takeL_at (i := 0) (d := 25) (v := ?_) (by simp only [List.getElem?_toArray, List.getElem?_cons_succ, List.getElem?_cons_zero]; rfl) rfl (by kernel_rfl) (by kernel_rfl) (by kernel_rfl) (by kernel_rfl) (fun _ _ _ h => h) rfl ?_ (by assumption) ?_
    rotate_left
    focus (intro w hSw; go_simp; (try with_reducible rfl); done)
    try simp only [List.setIfInBounds_toArray, List.set_cons_zero, List.set_cons_succ]
    refine takeL_at (i := 1) (d := 26) (v := ?_) (by simp only [List.getElem?_toArray, List.getElem?_cons_succ, List.getElem?_cons_zero]; rfl) rfl (by kernel_rfl) (by kernel_rfl) (by kernel_rfl) (by kernel_rfl) (fun _ _ _ h => h) rfl ?_ (by assumption) ?_
    rotate_left
    focus (intro w hSw; go_simp; (try with_reducible rfl); done)
    try simp only [List.setIfInBounds_toArray, List.set_cons_zero, List.set_cons_succ]
    refine takeL_at (i := 2) (d := 27) (v := ?_) (by simp only [List.getElem?_toArray, List.getElem?_cons_succ, List.getElem?_cons_zero]; rfl) rfl (by kernel_rfl) (by kernel_rfl) (by kernel_rfl) (by kernel_rfl) (fun _ _ _ h => h) rfl ?_ (by assumption) ?_
    rotate_left
    focus (intro w hSw; go_simp; (try with_reducible rfl); done)
    try simp only [List.setIfInBounds_toArray, List.set_cons_zero, List.set_cons_succ]
    refine takeL_at (i := 3) (d := 28) (v := ?_) (by simp only [List.getElem?_toArray, List.getElem?_cons_succ, List.getElem?_cons_zero]; rfl) rfl (by kernel_rfl) (by kernel_rfl) (by kernel_rfl) (by kernel_rfl) (fun _ _ _ h => h) rfl ?_ (by assumption) ?_
    rotate_left
    focus (intro w hSw; go_simp; (try with_reducible rfl); done)
    try simp only [List.setIfInBounds_toArray, List.set_cons_zero, List.set_cons_succ]
    refine takeL_at (i := 5) (d := 30) (v := ?_) (by simp only [List.getElem?_toArray, List.getElem?_cons_succ, List.getElem?_cons_zero]; rfl) rfl (by kernel_rfl) (by kernel_rfl) (by kernel_rfl) (by kernel_rfl) (fun _ _ _ h => h) rfl ?_ (by assumption) ?_
    rotate_left
    focus (intro w hSw; go_simp; (try with_reducible rfl); done)
    try simp only [List.setIfInBounds_toArray, List.set_cons_zero, List.set_cons_succ]
    refine takeL_at (i := 6) (d := 31) (v := ?_) (by simp only [List.getElem?_toArray, List.getElem?_cons_succ, List.getElem?_cons_zero]; rfl) rfl (by kernel_rfl) (by kernel_rfl) (by kernel_rfl) (by kernel_rfl) (fun _ _ _ h => h) rfl ?_ (by assumption) ?_
    rotate_left
    focus (intro w hSw; go_simp; (try with_reducible rfl); done)
    try simp only [List.setIfInBounds_toArray, List.set_cons_zero, List.set_cons_succ]
    refine takeL_at (i := 7) (d := 32) (v := ?_) (by simp only [List.getElem?_toArray, List.getElem?_cons_succ, List.getElem?_cons_zero]; rfl) rfl (by kernel_rfl) (by kernel_rfl) (by kernel_rfl) (by kernel_rfl) (fun _ _ _ h => h) rfl ?_ (by assumption) ?_
    rotate_left
    focus (intro w hSw; go_simp; (try with_reducible rfl); done)
    try simp only [List.setIfInBounds_toArray, List.set_cons_zero, List.set_cons_succ]
    refine takeL_at (i := 8) (d := 33) (v := ?_) (by simp only [List.getElem?_toArray, List.getElem?_cons_succ, List.getElem?_cons_zero]; rfl) rfl (by kernel_rfl) (by kernel_rfl) (by kernel_rfl) (by kernel_rfl) (fun _ _ _ h => h) rfl ?_ (by assumption) ?_
    rotate_left
    focus (intro w hSw; go_simp; (try with_reducible rfl); done)
    try simp only [List.setIfInBounds_toArray, List.set_cons_zero, List.set_cons_succ]
    refine callL_at (i := 4) (d := 29) (by simp only [List.getElem?_toArray, List.getElem?_cons_succ, List.getElem?_cons_zero]; rfl) rfl (by kernel_rfl) rfl (fun K hK => ?_)
    go_simp
    refine (radd_any _ s q).mono ?_
    rintro e z1 ⟨rfl, rfl⟩
    go_wp2_with fail
    refine hK.out _ _ hS0 (fun hSn => ?_)
    clear hK K
    try simp only [List.setIfInBounds_toArray, List.set_cons_zero, List.set_cons_succ]
    refine callL_at (i := 9) (d := 34) (by simp only [List.getElem?_toArray, List.getElem?_cons_succ, List.getElem?_cons_zero]; rfl) rfl (by kernel_rfl) rfl (fun K hK => ?_)
    go_simp
    refine (radd_any _ m r).mono ?_
    rintro e z1 ⟨rfl, rfl⟩
    go_wp2_with fail
    refine hK.out _ _ hS0 (fun hSn => ?_)
    clear hK K
    try simp only [List.setIfInBounds_toArray, List.set_cons_zero, List.set_cons_succ]
    refine takeL_at (i := 10) (d := 35) (v := ?_) (by simp only [List.getElem?_toArray, List.getElem?_cons_succ, List.getElem?_cons_zero]; rfl) rfl (by kernel_rfl) (by kernel_rfl) (by kernel_rfl) (by kernel_rfl) (fun _ _ _ h => h) rfl ?_ (by assumption) ?_
    rotate_left
    focus (intro w hSw; go_simp; (try with_reducible rfl); done)
    try simp only [List.setIfInBounds_toArray, List.set_cons_zero, List.set_cons_succ]
    refine exL_at (i := 11) (by simp only [List.getElem?_toArray, List.getElem?_cons_succ, List.getElem?_cons_zero]; rfl) (by kernel_rfl) rfl (by kernel_rfl) (fun K hK => ?_)
    go_wp2_with fail
    refine hK.out _ _ ?_
    clear hK K
    try simp only [List.setIfInBounds_toArray, List.set_cons_zero, List.set_cons_succ]
    refine wpAnyL_done (by kernel_rfl) ?_ _
    go_wp2
    obtain ⟨hf, hfB, y0', y1'⟩ := HFin.out
    rw [hf]
    have y0 : f.drew.cell? ⟨w.heap.size + 1 + 1 + 1, 0, none⟩ = some (.int .i64 (dadd s q)) := y0'
    have y1 : f.drew.cell? ⟨w.heap.size + 1 + 1 + 1, 1, none⟩ = some (.int .i64 (dadd m r)) := y1'
    clear y0' y1'
    exact bodyPost_ret (v := .agg #[.int .i64 (dadd s q), .int .i64 (dadd m r)]) (by simp [results, Tryz.results26, go_sem, y0, y1]) rfl ⟨by simp [joinF], hfB.trans (below_dr0 _ f)⟩
  have N0 := M0.out
  have c0 : u.cell? ⟨w.heap.size, 0, none⟩ = some (.int .u8 k) := cell_of_row _ _ 0 _ _ _ N0
  have c1 : u.cell? ⟨w.heap.size, 1, none⟩ = some (.int .i64 j1) := cell_of_row _ _ 1 _ _ _ N0
  have c2 : u.cell? ⟨w.heap.size, 2, none⟩ = some (.int .i64 j2) := cell_of_row _ _ 2 _ _ _ N0
  have c3 : u.cell? ⟨w.heap.size, 3, none⟩ = some (.int .i64 j3) := cell_of_row _ _ 3 _ _ _ N0
  have c4 : u.cell? ⟨w.heap.size, 4, none⟩ = some (.int .i64 j4) := cell_of_row _ _ 4 _ _ _ N0
  clear N0
  have d10 : u.cell? ⟨w.heap.size + 1, 0, none⟩ = some (.int .i64 s) := cell_of_row _ _ 0 _ _ _ M1.out
  have d11 : u.cell? ⟨w.heap.size + 1, 1, none⟩ = some (.int .i64 m) := cell_of_row _ _ 1 _ _ _ M1.out
  have d20 : u.cell? ⟨w.heap.size + 1 + 1, 0, none⟩ = some (.int .i64 q) := cell_of_row _ _ 0 _ _ _ M2.out
  have d21 : u.cell? ⟨w.heap.size + 1 + 1, 1, none⟩ = some (.int .i64 r) := cell_of_row _ _ 1 _ _ _ M2.out
  have z0 : u.cell? ⟨w.heap.size + 1 + 1 + 1, 0, none⟩ = some (.int .i64 0) := cell_of_row _ _ 0 _ _ _ M3.out
  have z1 : u.cell? ⟨w.heap.size + 1 + 1 + 1, 1, none⟩ = some (.int .i64 0) := cell_of_row _ _ 1 _ _ _ M3.out
  have zf0 : u.frozen? ⟨w.heap.size + 1 + 1 + 1, 0, none⟩ = false := frozen_of_row _ _ 0 _ _ M3.out
  have zf1 : u.frozen? ⟨w.heap.size + 1 + 1 + 1, 1, none⟩ = false := frozen_of_row _ _ 1 _ _ M3.out
  obtain ⟨f, hf⟩ : ∃ z, (u.setCell ⟨w.heap.size + 1 + 1 + 1, 0, none⟩ (.int .i64 (0))).setCell ⟨w.heap.size + 1 + 1 + 1, 1, none⟩ (.int .i64 (0)) = z := ⟨_, rfl⟩
  have hfB : Below w.heap.size w f := by rw [← hf]; exact (hbu.out.setCell (p := ⟨w.heap.size + 1 + 1 + 1, 0, none⟩) (by show w.heap.size ≤ w.heap.size + 1 + 1 + 1; omega) _).setCell (p := ⟨w.heap.size + 1 + 1 + 1, 1, none⟩) (by show w.heap.size ≤ w.heap.size + 1 + 1 + 1; omega) _
  have hf2 := heap_setCell_same _ (w.heap.size + 1 + 1 + 1) 1 _ _ (.int .i64 (0)) (heap_setCell_same (u) (w.heap.size + 1 + 1 + 1) 0 _ _ (.int .i64 (0)) M3.out)
  rw [hf] at hf2
  have y0 : f.cell? ⟨w.heap.size + 1 + 1 + 1, 0, none⟩ = some (.int .i64 (0)) := cell_of_row _ _ 0 _ _ _ hf2
  have y1 : f.cell? ⟨w.heap.size + 1 + 1 + 1, 1, none⟩ = some (.int .i64 (0)) := cell_of_row _ _ 1 _ _ _ hf2
  have HFin := hide (And.intro hf (And.intro hfB (And.intro y0 y1)))
  clear hf hfB hf2 y0 y1
  go_enter Tryz.func26, Tryz.ntmps26
  go_upto_region 1 with fail
  rw [HU.out]
  go_wp2
  obtain ⟨hf, hfB, y0, y1⟩ := HFin.out
  rw [hf]
  exact bodyPost_ret (v := .agg #[.int .i64 (0), .int .i64 (0)]) (by simp [results, Tryz.results26, go_sem, y0, y1]) rfl ⟨by simp [joinF, k1, k2, k3], hfB⟩
end Go.Proofs.YtihlhkbdgbkafaaGreat

/- Join of totals. (printed by gen/alj.py) -/
import Derived.Test.YtihlhkbdgbkafaaAls
namespace Go.Proofs.Ytihlhkbdgbkafaa
open Go.RowKit
set_option linter.unusedVariables false
set_option linter.unusedSimpArgs false
theorem heap_alloc_keep {w : World} {o c : Obj} {b : Nat} (h : w.heap[b]? = some c) : (w.alloc o).heap[b]? = some c := (((Below.refl w.heap.size w).alloc (Nat.le_refl _) o).block b (Array.getElem?_eq_some_iff.1 h).1).trans h
def joinF (k : Int) (s m q r : Int) : Int × Int := if k = 1 then (dadd s q, max m r) else if k = 2 ∨ k = 3 then (dadd s q, dadd m r) else (0, 0)
set_option maxRecDepth 100000 in
set_option maxHeartbeats 4000000 in
theorem join_any (w : World) (k : Int) (j1 j2 j3 j4 : Int) (s m q r : Int) (hs : -9223372036854775808 ≤ s ∧ s ≤ 9223372036854775807) (hm : -9223372036854775808 ≤ m ∧ m ≤ 9223372036854775807) (hq : -9223372036854775808 ≤ q ∧ q ≤ 9223372036854775807) (hr : -9223372036854775808 ≤ r ∧ r ≤ 9223372036854775807) : Calls Try.prog 24 #[.agg #[.int .u8 k, .int .i64 j1, .int .i64 j2, .int .i64 j3, .int .i64 j4], .agg #[.int .i64 s, .int .i64 m], .agg #[.int .i64 q, .int .i64 r]] w fun e w' => e = .returned (.agg #[.int .i64 (joinF k s m q r).1, .int .i64 (joinF k s m q r).2]) ∧ Below w.heap.size w w' := by
  obtain ⟨u, hu⟩ : ∃ u, (((w.alloc (.cells #[.int .u8 k, .int .i64 j1, .int .i64 j2, .int .i64 j3, .int .i64 j4] 26)).alloc (.cells #[.int .i64 s, .int .i64 m] 48)).alloc (.cells #[.int .i64 q, .int .i64 r] 48)).alloc (.cells #[.int .i64 0, .int .i64 0] 48) = u := ⟨_, rfl⟩
  have hzu : w.heap.size + 1 + 1 + 1 < u.heap.size := by rw [← hu]; simp
  have hbu := hide (show Below w.heap.size w u by rw [← hu]; exact (((Below.refl _ _).alloc (Nat.le_refl _) _).alloc (by simp) _).alloc (by simp; omega) _ |>.alloc (by simp; omega) _)
  have M0 := hide (show u.heap[w.heap.size]? = some (Obj.cells #[.int .u8 k, .int .i64 j1, .int .i64 j2, .int .i64 j3, .int .i64 j4] 26) by rw [← hu]; exact heap_alloc_keep (heap_alloc_keep (heap_alloc_keep ((by have h := heap_alloc_last w (.cells #[.int .u8 k, .int .i64 j1, .int .i64 j2, .int .i64 j3, .int .i64 j4] 26); simpa using h)))))
  have M1 := hide (show u.heap[w.heap.size + 1]? = some (Obj.cells #[.int .i64 s, .int .i64 m] 48) by rw [← hu]; exact heap_alloc_keep (heap_alloc_keep ((by have h := heap_alloc_last (w.alloc (.cells #[.int .u8 k, .int .i64 j1, .int .i64 j2, .int .i64 j3, .int .i64 j4] 26)) (.cells #[.int .i64 s, .int .i64 m] 48); simpa using h))))
  have M2 := hide (show u.heap[w.heap.size + 1 + 1]? = some (Obj.cells #[.int .i64 q, .int .i64 r] 48) by rw [← hu]; exact heap_alloc_keep ((by have h := heap_alloc_last ((w.alloc (.cells #[.int .u8 k, .int .i64 j1, .int .i64 j2, .int .i64 j3, .int .i64 j4] 26)).alloc (.cells #[.int .i64 s, .int .i64 m] 48)) (.cells #[.int .i64 q, .int .i64 r] 48); simpa using h)))
  have M3 := hide (show u.heap[w.heap.size + 1 + 1 + 1]? = some (Obj.cells #[.int .i64 0, .int .i64 0] 48) by rw [← hu]; exact (by have h := heap_alloc_last (((w.alloc (.cells #[.int .u8 k, .int .i64 j1, .int .i64 j2, .int .i64 j3, .int .i64 j4] 26)).alloc (.cells #[.int .i64 s, .int .i64 m] 48)).alloc (.cells #[.int .i64 q, .int .i64 r] 48)) (.cells #[.int .i64 0, .int .i64 0] 48); simpa using h))
  have c0 : u.cell? ⟨w.heap.size, 0, none⟩ = some (.int .u8 k) := cell_of_row _ _ 0 _ _ _ M0.out
  have c1 : u.cell? ⟨w.heap.size, 1, none⟩ = some (.int .i64 j1) := cell_of_row _ _ 1 _ _ _ M0.out
  have c2 : u.cell? ⟨w.heap.size, 2, none⟩ = some (.int .i64 j2) := cell_of_row _ _ 2 _ _ _ M0.out
  have c3 : u.cell? ⟨w.heap.size, 3, none⟩ = some (.int .i64 j3) := cell_of_row _ _ 3 _ _ _ M0.out
  have c4 : u.cell? ⟨w.heap.size, 4, none⟩ = some (.int .i64 j4) := cell_of_row _ _ 4 _ _ _ M0.out
  clear M0
  have d0 : u.cell? ⟨w.heap.size + 1, 0, none⟩ = some (.int .i64 s) := cell_of_row _ _ 0 _ _ _ M1.out
  have d1 : u.cell? ⟨w.heap.size + 1 + 1, 0, none⟩ = some (.int .i64 q) := cell_of_row _ _ 0 _ _ _ M2.out
  by_cases k1 : k = 1
  · subst k1
    by_cases hlt : m < r
    · have HU := hide hu
      clear hu
      go_enter Try.func24, Try.ntmps24
      go_wp2_with fail
      rw [HU.out]
      refine (add_any _ s q hs.1 hs.2 hq.1 hq.2).mono ?_
      rintro e w1 ⟨rfl, rfl⟩
      go_wp2_with fail
      refine (shares_any _ 1 j1 j2 j3 j4).mono ?_
      rintro e w1 ⟨rfl, hb⟩
      have HB := hide hb
      have hzw := hb.size
      clear c0 c1 c2 c3 c4 d0 d1
      have N1 := (hb.block _ (by omega)).trans M1.out
      have N2 := (hb.block _ (by omega)).trans M2.out
      have N3 := (hb.block _ (by omega)).trans M3.out
      clear hb
      have x2 : w1.cell? ⟨w.heap.size + 1, 1, none⟩ = some (.int .i64 m) := cell_of_row _ _ 1 _ _ _ N1
      have x4 : w1.cell? ⟨w.heap.size + 1 + 1, 1, none⟩ = some (.int .i64 r) := cell_of_row _ _ 1 _ _ _ N2
      have z0 : w1.cell? ⟨w.heap.size + 1 + 1 + 1, 0, none⟩ = some (.int .i64 0) := cell_of_row _ _ 0 _ _ _ N3
      have zf0 : w1.frozen? ⟨w.heap.size + 1 + 1 + 1, 0, none⟩ = false := frozen_of_row _ _ 0 _ _ N3
      have z1 : w1.cell? ⟨w.heap.size + 1 + 1 + 1, 1, none⟩ = some (.int .i64 0) := cell_of_row _ _ 1 _ _ _ N3
      have zf1 : w1.frozen? ⟨w.heap.size + 1 + 1 + 1, 1, none⟩ = false := frozen_of_row _ _ 1 _ _ N3
      clear N1 N2
      obtain ⟨f, hf⟩ : ∃ z, (w1.setCell ⟨w.heap.size + 1 + 1 + 1, 0, none⟩ (.int .i64 (dadd s q))).setCell ⟨w.heap.size + 1 + 1 + 1, 1, none⟩ (.int .i64 (r)) = z := ⟨_, rfl⟩
      have hfB : Below w.heap.size w f := by rw [← hf]; exact ((hbu.out.trans (HB.out.mono (by omega))).setCell (p := ⟨w.heap.size + 1 + 1 + 1, 0, none⟩) (by show w.heap.size ≤ w.heap.size + 1 + 1 + 1; omega) _).setCell (p := ⟨w.heap.size + 1 + 1 + 1, 1, none⟩) (by show w.heap.size ≤ w.heap.size + 1 + 1 + 1; omega) _
      have hf2 := heap_setCell_same _ (w.heap.size + 1 + 1 + 1) 1 _ _ (.int .i64 (r)) (heap_setCell_same w1 (w.heap.size + 1 + 1 + 1) 0 _ _ (.int .i64 (dadd s q)) N3)
      rw [hf] at hf2
      have y0 : f.cell? ⟨w.heap.size + 1 + 1 + 1, 0, none⟩ = some (.int .i64 (dadd s q)) := cell_of_row _ _ 0 _ _ _ hf2
      have y1 : f.cell? ⟨w.heap.size + 1 + 1 + 1, 1, none⟩ = some (.int .i64 (r)) := cell_of_row _ _ 1 _ _ _ hf2
      have HFin := hide (And.intro hf (And.intro hfB (And.intro y0 y1)))
      clear hf hfB hf2 y0 y1 N3
      go_wp2
      obtain ⟨hf, hfB, y0, y1⟩ := HFin.out
      rw [hf]
      exact bodyPost_ret (v := .agg #[.int .i64 (dadd s q), .int .i64 (r)]) (by simp [results, Try.results24, go_sem, y0, y1]) rfl ⟨by rw [show joinF 1 s m q r = (dadd s q, r) by simp [joinF]; omega], hfB⟩
    · have HU := hide hu
      clear hu
      go_enter Try.func24, Try.ntmps24
      go_wp2_with fail
      rw [HU.out]
      refine (add_any _ s q hs.1 hs.2 hq.1 hq.2).mono ?_
      rintro e w1 ⟨rfl, rfl⟩
      go_wp2_with fail
      refine (shares_any _ 1 j1 j2 j3 j4).mono ?_
      rintro e w1 ⟨rfl, hb⟩
      have HB := hide hb
      have hzw := hb.size
      clear c0 c1 c2 c3 c4 d0 d1
      have N1 := (hb.block _ (by omega)).trans M1.out
      have N2 := (hb.block _ (by omega)).trans M2.out
      have N3 := (hb.block _ (by omega)).trans M3.out
      clear hb
      have x2 : w1.cell? ⟨w.heap.size + 1, 1, none⟩ = some (.int .i64 m) := cell_of_row _ _ 1 _ _ _ N1
      have x4 : w1.cell? ⟨w.heap.size + 1 + 1, 1, none⟩ = some (.int .i64 r) := cell_of_row _ _ 1 _ _ _ N2
      have z0 : w1.cell? ⟨w.heap.size + 1 + 1 + 1, 0, none⟩ = some (.int .i64 0) := cell_of_row _ _ 0 _ _ _ N3
      have zf0 : w1.frozen? ⟨w.heap.size + 1 + 1 + 1, 0, none⟩ = false := frozen_of_row _ _ 0 _ _ N3
      have z1 : w1.cell? ⟨w.heap.size + 1 + 1 + 1, 1, none⟩ = some (.int .i64 0) := cell_of_row _ _ 1 _ _ _ N3
      have zf1 : w1.frozen? ⟨w.heap.size + 1 + 1 + 1, 1, none⟩ = false := frozen_of_row _ _ 1 _ _ N3
      clear N1 N2
      obtain ⟨f, hf⟩ : ∃ z, (w1.setCell ⟨w.heap.size + 1 + 1 + 1, 0, none⟩ (.int .i64 (dadd s q))).setCell ⟨w.heap.size + 1 + 1 + 1, 1, none⟩ (.int .i64 (m)) = z := ⟨_, rfl⟩
      have hfB : Below w.heap.size w f := by rw [← hf]; exact ((hbu.out.trans (HB.out.mono (by omega))).setCell (p := ⟨w.heap.size + 1 + 1 + 1, 0, none⟩) (by show w.heap.size ≤ w.heap.size + 1 + 1 + 1; omega) _).setCell (p := ⟨w.heap.size + 1 + 1 + 1, 1, none⟩) (by show w.heap.size ≤ w.heap.size + 1 + 1 + 1; omega) _
      have hf2 := heap_setCell_same _ (w.heap.size + 1 + 1 + 1) 1 _ _ (.int .i64 (m)) (heap_setCell_same w1 (w.heap.size + 1 + 1 + 1) 0 _ _ (.int .i64 (dadd s q)) N3)
      rw [hf] at hf2
      have y0 : f.cell? ⟨w.heap.size + 1 + 1 + 1, 0, none⟩ = some (.int .i64 (dadd s q)) := cell_of_row _ _ 0 _ _ _ hf2
      have y1 : f.cell? ⟨w.heap.size + 1 + 1 + 1, 1, none⟩ = some (.int .i64 (m)) := cell_of_row _ _ 1 _ _ _ hf2
      have HFin := hide (And.intro hf (And.intro hfB (And.intro y0 y1)))
      clear hf hfB hf2 y0 y1 N3
      go_wp2
      obtain ⟨hf, hfB, y0, y1⟩ := HFin.out
      rw [hf]
      exact bodyPost_ret (v := .agg #[.int .i64 (dadd s q), .int .i64 (m)]) (by simp [results, Try.results24, go_sem, y0, y1]) rfl ⟨by rw [show joinF 1 s m q r = (dadd s q, m) by simp [joinF]; omega], hfB⟩
  by_cases k2 : k = 2
  · subst k2
    have HU := hide hu
    clear hu
    go_enter Try.func24, Try.ntmps24
    go_wp2_with fail
    rw [HU.out]
    refine (add_any _ s q hs.1 hs.2 hq.1 hq.2).mono ?_
    rintro e w1 ⟨rfl, rfl⟩
    go_wp2_with fail
    refine (shares_any _ 2 j1 j2 j3 j4).mono ?_
    rintro e w1 ⟨rfl, hb⟩
    have HB := hide hb
    have hzw := hb.size
    clear c0 c1 c2 c3 c4 d0 d1
    have N1 := (hb.block _ (by omega)).trans M1.out
    have N2 := (hb.block _ (by omega)).trans M2.out
    have N3 := (hb.block _ (by omega)).trans M3.out
    clear hb
    have x2 : w1.cell? ⟨w.heap.size + 1, 1, none⟩ = some (.int .i64 m) := cell_of_row _ _ 1 _ _ _ N1
    have x4 : w1.cell? ⟨w.heap.size + 1 + 1, 1, none⟩ = some (.int .i64 r) := cell_of_row _ _ 1 _ _ _ N2
    have z0 : w1.cell? ⟨w.heap.size + 1 + 1 + 1, 0, none⟩ = some (.int .i64 0) := cell_of_row _ _ 0 _ _ _ N3
    have zf0 : w1.frozen? ⟨w.heap.size + 1 + 1 + 1, 0, none⟩ = false := frozen_of_row _ _ 0 _ _ N3
    have z1 : w1.cell? ⟨w.heap.size + 1 + 1 + 1, 1, none⟩ = some (.int .i64 0) := cell_of_row _ _ 1 _ _ _ N3
    have zf1 : w1.frozen? ⟨w.heap.size + 1 + 1 + 1, 1, none⟩ = false := frozen_of_row _ _ 1 _ _ N3
    clear N1 N2
    obtain ⟨f, hf⟩ : ∃ z, (w1.setCell ⟨w.heap.size + 1 + 1 + 1, 0, none⟩ (.int .i64 (dadd s q))).setCell ⟨w.heap.size + 1 + 1 + 1, 1, none⟩ (.int .i64 (dadd m r)) = z := ⟨_, rfl⟩
    have hfB : Below w.heap.size w f := by rw [← hf]; exact ((hbu.out.trans (HB.out.mono (by omega))).setCell (p := ⟨w.heap.size + 1 + 1 + 1, 0, none⟩) (by show w.heap.size ≤ w.heap.size + 1 + 1 + 1; omega) _).setCell (p := ⟨w.heap.size + 1 + 1 + 1, 1, none⟩) (by show w.heap.size ≤ w.heap.size + 1 + 1 + 1; omega) _
    have hf2 := heap_setCell_same _ (w.heap.size + 1 + 1 + 1) 1 _ _ (.int .i64 (dadd m r)) (heap_setCell_same w1 (w.heap.size + 1 + 1 + 1) 0 _ _ (.int .i64 (dadd s q)) N3)
    rw [hf] at hf2
    have y0 : f.cell? ⟨w.heap.size + 1 + 1 + 1, 0, none⟩ = some (.int .i64 (dadd s q)) := cell_of_row _ _ 0 _ _ _ hf2
    have y1 : f.cell? ⟨w.heap.size + 1 + 1 + 1, 1, none⟩ = some (.int .i64 (dadd m r)) := cell_of_row _ _ 1 _ _ _ hf2
    have HFin := hide (And.intro hf (And.intro hfB (And.intro y0 y1)))
    clear hf hfB hf2 y0 y1 N3
    go_wp2_with fail
    refine (add_any _ m r hm.1 hm.2 hr.1 hr.2).mono ?_
    rintro e w2 ⟨rfl, rfl⟩
    go_wp2
    obtain ⟨hf, hfB, y0, y1⟩ := HFin.out
    rw [hf]
    exact bodyPost_ret (v := .agg #[.int .i64 (dadd s q), .int .i64 (dadd m r)]) (by simp [results, Try.results24, go_sem, y0, y1]) rfl ⟨by simp [joinF], hfB⟩
  by_cases k3 : k = 3
  · subst k3
    have HU := hide hu
    clear hu
    go_enter Try.func24, Try.ntmps24
    go_wp2_with fail
    rw [HU.out]
    refine (add_any _ s q hs.1 hs.2 hq.1 hq.2).mono ?_
    rintro e w1 ⟨rfl, rfl⟩
    go_wp2_with fail
    refine (shares_any _ 3 j1 j2 j3 j4).mono ?_
    rintro e w1 ⟨rfl, hb⟩
    have HB := hide hb
    have hzw := hb.size
    clear c0 c1 c2 c3 c4 d0 d1
    have N1 := (hb.block _ (by omega)).trans M1.out
    have N2 := (hb.block _ (by omega)).trans M2.out
    have N3 := (hb.block _ (by omega)).trans M3.out
    clear hb
    have x2 : w1.cell? ⟨w.heap.size + 1, 1, none⟩ = some (.int .i64 m) := cell_of_row _ _ 1 _ _ _ N1
    have x4 : w1.cell? ⟨w.heap.size + 1 + 1, 1, none⟩ = some (.int .i64 r) := cell_of_row _ _ 1 _ _ _ N2
    have z0 : w1.cell? ⟨w.heap.size + 1 + 1 + 1, 0, none⟩ = some (.int .i64 0) := cell_of_row _ _ 0 _ _ _ N3
    have zf0 : w1.frozen? ⟨w.heap.size + 1 + 1 + 1, 0, none⟩ = false := frozen_of_row _ _ 0 _ _ N3
    have z1 : w1.cell? ⟨w.heap.size + 1 + 1 + 1, 1, none⟩ = some (.int .i64 0) := cell_of_row _ _ 1 _ _ _ N3
    have zf1 : w1.frozen? ⟨w.heap.size + 1 + 1 + 1, 1, none⟩ = false := frozen_of_row _ _ 1 _ _ N3
    clear N1 N2
    obtain ⟨f, hf⟩ : ∃ z, (w1.setCell ⟨w.heap.size + 1 + 1 + 1, 0, none⟩ (.int .i64 (dadd s q))).setCell ⟨w.heap.size + 1 + 1 + 1, 1, none⟩ (.int .i64 (dadd m r)) = z := ⟨_, rfl⟩
    have hfB : Below w.heap.size w f := by rw [← hf]; exact ((hbu.out.trans (HB.out.mono (by omega))).setCell (p := ⟨w.heap.size + 1 + 1 + 1, 0, none⟩) (by show w.heap.size ≤ w.heap.size + 1 + 1 + 1; omega) _).setCell (p := ⟨w.heap.size + 1 + 1 + 1, 1, none⟩) (by show w.heap.size ≤ w.heap.size + 1 + 1 + 1; omega) _
    have hf2 := heap_setCell_same _ (w.heap.size + 1 + 1 + 1) 1 _ _ (.int .i64 (dadd m r)) (heap_setCell_same w1 (w.heap.size + 1 + 1 + 1) 0 _ _ (.int .i64 (dadd s q)) N3)
    rw [hf] at hf2
    have y0 : f.cell? ⟨w.heap.size + 1 + 1 + 1, 0, none⟩ = some (.int .i64 (dadd s q)) := cell_of_row _ _ 0 _ _ _ hf2
    have y1 : f.cell? ⟨w.heap.size + 1 + 1 + 1, 1, none⟩ = some (.int .i64 (dadd m r)) := cell_of_row _ _ 1 _ _ _ hf2
    have HFin := hide (And.intro hf (And.intro hfB (And.intro y0 y1)))
    clear hf hfB hf2 y0 y1 N3
    go_wp2_with fail
    refine (add_any _ m r hm.1 hm.2 hr.1 hr.2).mono ?_
    rintro e w2 ⟨rfl, rfl⟩
    go_wp2
    obtain ⟨hf, hfB, y0, y1⟩ := HFin.out
    rw [hf]
    exact bodyPost_ret (v := .agg #[.int .i64 (dadd s q), .int .i64 (dadd m r)]) (by simp [results, Try.results24, go_sem, y0, y1]) rfl ⟨by simp [joinF], hfB⟩
  obtain ⟨hk1, hk2, hk3⟩ : decide (k = 1) = false ∧ decide (k = 2) = false ∧ decide (k = 3) = false := by simp [k1, k2, k3]
  have HU := hide hu
  clear hu
  go_enter Try.func24, Try.ntmps24
  go_wp2_with fail
  rw [HU.out]
  refine (add_any _ s q hs.1 hs.2 hq.1 hq.2).mono ?_
  rintro e w1 ⟨rfl, rfl⟩
  go_wp2_with fail
  refine (shares_any _ k j1 j2 j3 j4).mono ?_
  rintro e w1 ⟨rfl, hb⟩
  have HB := hide hb
  have hzw := hb.size
  clear c0 c1 c2 c3 c4 d0 d1
  have N1 := (hb.block _ (by omega)).trans M1.out
  have N2 := (hb.block _ (by omega)).trans M2.out
  have N3 := (hb.block _ (by omega)).trans M3.out
  clear hb
  rw [hk1, hk2, hk3]
  have x2 : w1.cell? ⟨w.heap.size + 1, 1, none⟩ = some (.int .i64 m) := cell_of_row _ _ 1 _ _ _ N1
  have x4 : w1.cell? ⟨w.heap.size + 1 + 1, 1, none⟩ = some (.int .i64 r) := cell_of_row _ _ 1 _ _ _ N2
  have z0 : w1.cell? ⟨w.heap.size + 1 + 1 + 1, 0, none⟩ = some (.int .i64 0) := cell_of_row _ _ 0 _ _ _ N3
  have zf0 : w1.frozen? ⟨w.heap.size + 1 + 1 + 1, 0, none⟩ = false := frozen_of_row _ _ 0 _ _ N3
  have z1 : w1.cell? ⟨w.heap.size + 1 + 1 + 1, 1, none⟩ = some (.int .i64 0) := cell_of_row _ _ 1 _ _ _ N3
  have zf1 : w1.frozen? ⟨w.heap.size + 1 + 1 + 1, 1, none⟩ = false := frozen_of_row _ _ 1 _ _ N3
  clear N1 N2
  obtain ⟨f, hf⟩ : ∃ z, (w1.setCell ⟨w.heap.size + 1 + 1 + 1, 0, none⟩ (.int .i64 (0))).setCell ⟨w.heap.size + 1 + 1 + 1, 1, none⟩ (.int .i64 (0)) = z := ⟨_, rfl⟩
  have hfB : Below w.heap.size w f := by rw [← hf]; exact ((hbu.out.trans (HB.out.mono (by omega))).setCell (p := ⟨w.heap.size + 1 + 1 + 1, 0, none⟩) (by show w.heap.size ≤ w.heap.size + 1 + 1 + 1; omega) _).setCell (p := ⟨w.heap.size + 1 + 1 + 1, 1, none⟩) (by show w.heap.size ≤ w.heap.size + 1 + 1 + 1; omega) _
  have hf2 := heap_setCell_same _ (w.heap.size + 1 + 1 + 1) 1 _ _ (.int .i64 (0)) (heap_setCell_same w1 (w.heap.size + 1 + 1 + 1) 0 _ _ (.int .i64 (0)) N3)
  rw [hf] at hf2
  have y0 : f.cell? ⟨w.heap.size + 1 + 1 + 1, 0, none⟩ = some (.int .i64 (0)) := cell_of_row _ _ 0 _ _ _ hf2
  have y1 : f.cell? ⟨w.heap.size + 1 + 1 + 1, 1, none⟩ = some (.int .i64 (0)) := cell_of_row _ _ 1 _ _ _ hf2
  have HFin := hide (And.intro hf (And.intro hfB (And.intro y0 y1)))
  clear hf hfB hf2 y0 y1 N3
  go_wp2
  obtain ⟨hf, hfB, y0, y1⟩ := HFin.out
  rw [hf]
  exact bodyPost_ret (v := .agg #[.int .i64 (0), .int .i64 (0)]) (by simp [results, Try.results24, go_sem, y0, y1]) rfl ⟨by simp [joinF, k1, k2, k3], hfB⟩
end Go.Proofs.Ytihlhkbdgbkafaa

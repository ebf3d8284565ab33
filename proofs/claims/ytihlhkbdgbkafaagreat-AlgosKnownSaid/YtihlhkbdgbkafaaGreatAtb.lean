/- How far numbers are apart. (printed by gen/asz.py) A vertex's share of the total: algos. (printed by gen/ata.py) A vertex's share of the total: the document. (printed by gen/atb.py) A total as the document has it. (printed by gen/atc.py) -/
import Derived.Test.YtihlhkbdgbkafaaGreatAsv
import Derived.Deep.DeepCutAuto
namespace Go.Proofs.YtihlhkbdgbkafaaGreat
open Go.RowKit
set_option linter.unusedVariables false
set_option linter.unusedSimpArgs false
def apartF (a b : Int) : Int := if dist b < dist a then dist a - dist b else dist b - dist a
set_option maxRecDepth 100000 in
set_option maxHeartbeats 4000000 in
theorem apart_any (w : World) (a b : Int) (h1 : -9223372036854775808 ≤ a) (h2 : a ≤ 9223372036854775807) (h3 : -9223372036854775808 ≤ b) (h4 : b ≤ 9223372036854775807) : Calls Tryz.prog 42 #[.int .i64 a, .int .i64 b] w fun e w' => e = .returned (.int .i64 (apartF a b)) ∧ w = w' := by
  have ba := dist_bounds a
  have bb := dist_bounds b
  have hF := hide (show apartF a b = if dist b < dist a then dist a - dist b else dist b - dist a from rfl)
  go_enter Tryz.func42, Tryz.ntmps42
  go_wp2_with fail
  refine (distance_any _ a h1 h2).mono ?_
  rintro e w1 ⟨rfl, rfl⟩
  go_wp2_with fail
  refine (distance_any _ b h3 h4).mono ?_
  rintro e w1 ⟨rfl, rfl⟩
  obtain ⟨x, hx⟩ : ∃ x, dist a = x := ⟨_, rfl⟩
  obtain ⟨y, hy⟩ : ∃ y, dist b = y := ⟨_, rfl⟩
  rw [hx] at ba hF ⊢
  rw [hy] at bb hF ⊢
  clear hx hy
  have e1 : IntKind.i64.wrap (x - y) = x - y := IntWalk.i64_in _ (by omega)
  have e2 : IntKind.i64.wrap (y - x) = y - x := IntWalk.i64_in _ (by omega)
  rcases (show x < y ∨ ¬ x < y by omega) with hlt | hlt
  all_goals
    go_wp2
    all_goals
      go_ret
      exact ⟨ret_i64 (by rw [hF.out]; split <;> omega), rfl⟩
set_option maxRecDepth 100000 in
set_option maxHeartbeats 4000000 in
theorem rapart_any (w : World) (a b : Int) : Calls Tryz.prog 43 #[.int .i64 a, .int .i64 b] w fun e w' => e = .returned (.int .i64 (apartF a b)) ∧ w = w' := by
  have ba := dist_bounds a
  have bb := dist_bounds b
  have hF := hide (show apartF a b = if dist b < dist a then dist a - dist b else dist b - dist a from rfl)
  go_enter Tryz.func43, Tryz.ntmps43
  go_wp2_with fail
  refine (rdist_any _ a).mono ?_
  rintro e w1 ⟨rfl, rfl⟩
  go_wp2_with fail
  refine (rdist_any _ b).mono ?_
  rintro e w1 ⟨rfl, rfl⟩
  obtain ⟨x, hx⟩ : ∃ x, dist a = x := ⟨_, rfl⟩
  obtain ⟨y, hy⟩ : ∃ y, dist b = y := ⟨_, rfl⟩
  rw [hx] at ba hF ⊢
  rw [hy] at bb hF ⊢
  clear hx hy
  have e1 : IntKind.i64.wrap (x - y) = x - y := IntWalk.i64_in _ (by omega)
  have e2 : IntKind.i64.wrap (y - x) = y - x := IntWalk.i64_in _ (by omega)
  rcases (show x < y ∨ ¬ x < y by omega) with hlt | hlt
  all_goals
    go_wp2
    all_goals
      go_ret
      exact ⟨ret_i64 (by rw [hF.out]; split <;> omega), rfl⟩
end Go.Proofs.YtihlhkbdgbkafaaGreat
namespace Go.Proofs.YtihlhkbdgbkafaaGreat
open Go.RowKit
set_option linter.unusedVariables false
set_option linter.unusedSimpArgs false
def partT (k was val : Int) (chg : Bool) (n : Nat) : Int × Int := if k = 1 then (if n = 0 then max val 0 else 0, apartF was val) else if (k = 2 ∨ k = 3) ∧ chg = true then (0, 1) else (0, 0)
set_option maxRecDepth 100000 in
set_option maxHeartbeats 4000000 in
theorem part_any (w : World) (k j1 j2 j3 j4 was val : Int) (chg : Bool) (A : Option Addr) (n c : Nat) (h1 : -9223372036854775808 ≤ was) (h2 : was ≤ 9223372036854775807) (h3 : -9223372036854775808 ≤ val) (h4 : val ≤ 9223372036854775807) : Calls Tryz.prog 24 #[.agg #[.int .u8 k, .int .i64 j1, .int .i64 j2, .int .i64 j3, .int .i64 j4], .int .i64 was, .int .i64 val, .bool chg, .slice A n c] w fun e w' => e = .returned (.agg #[.int .i64 (partT k was val chg n).1, .int .i64 (partT k was val chg n).2]) ∧ Below w.heap.size w w' := by
  obtain ⟨u, hu⟩ : ∃ u, (w.alloc (.cells #[.int .u8 k, .int .i64 j1, .int .i64 j2, .int .i64 j3, .int .i64 j4] 28)).alloc (.cells #[.int .i64 0, .int .i64 0] 36) = u := ⟨_, rfl⟩
  have hzu : w.heap.size + 1 < u.heap.size := by rw [← hu]; simp
  have hbu := hide (show Below w.heap.size w u by rw [← hu]; exact ((Below.refl _ _).alloc (Nat.le_refl _) _).alloc (by simp) _)
  have M1 := hide (show u.heap[w.heap.size + 1]? = some (.cells #[.int .i64 0, .int .i64 0] 36) by rw [← hu]; have h := heap_alloc_last (w.alloc (.cells #[.int .u8 k, .int .i64 j1, .int .i64 j2, .int .i64 j3, .int .i64 j4] 28)) (.cells #[.int .i64 0, .int .i64 0] 36); simpa using h)
  have M0 := hide (show u.heap[w.heap.size]? = some (.cells #[.int .u8 k, .int .i64 j1, .int .i64 j2, .int .i64 j3, .int .i64 j4] 28) by rw [← hu]; exact heap_alloc_keep (heap_alloc_last _ _))
  have HU := hide hu
  clear hu
  by_cases k1 : k = 1
  · subst k1
    by_cases hn : n = 0
    · subst hn
      by_cases hlt : val < 0
      · have N0 := M0.out
        have c0 : u.cell? ⟨w.heap.size, 0, none⟩ = some (.int .u8 1) := cell_of_row _ _ 0 _ _ _ N0
        have c1 : u.cell? ⟨w.heap.size, 1, none⟩ = some (.int .i64 j1) := cell_of_row _ _ 1 _ _ _ N0
        have c2 : u.cell? ⟨w.heap.size, 2, none⟩ = some (.int .i64 j2) := cell_of_row _ _ 2 _ _ _ N0
        have c3 : u.cell? ⟨w.heap.size, 3, none⟩ = some (.int .i64 j3) := cell_of_row _ _ 3 _ _ _ N0
        have c4 : u.cell? ⟨w.heap.size, 4, none⟩ = some (.int .i64 j4) := cell_of_row _ _ 4 _ _ _ N0
        clear N0
        go_enter Tryz.func24, Tryz.ntmps24
        go_wp2_with fail
        rw [HU.out]
        refine (shares_any _ 1 j1 j2 j3 j4).mono ?_
        rintro e w1 ⟨rfl, hb⟩
        have HB := hide hb
        have hzw := hb.size
        clear c0 c1 c2 c3 c4
        have N3 := (hb.block _ hzu).trans M1.out
        clear hb
        have z0 : w1.cell? ⟨w.heap.size + 1, 0, none⟩ = some (.int .i64 0) := cell_of_row _ _ 0 _ _ _ N3
        have zf0 : w1.frozen? ⟨w.heap.size + 1, 0, none⟩ = false := frozen_of_row _ _ 0 _ _ N3
        have z1 : w1.cell? ⟨w.heap.size + 1, 1, none⟩ = some (.int .i64 0) := cell_of_row _ _ 1 _ _ _ N3
        have zf1 : w1.frozen? ⟨w.heap.size + 1, 1, none⟩ = false := frozen_of_row _ _ 1 _ _ N3
        obtain ⟨f, hf⟩ : ∃ z, (w1.setCell ⟨w.heap.size + 1, 0, none⟩ (.int .i64 (0))).setCell ⟨w.heap.size + 1, 1, none⟩ (.int .i64 (apartF was val)) = z := ⟨_, rfl⟩
        have hfB : Below w.heap.size w f := by rw [← hf]; exact ((hbu.out.trans (HB.out.mono (by omega))).setCell (p := ⟨w.heap.size + 1, 0, none⟩) (by show w.heap.size ≤ w.heap.size + 1; omega) _).setCell (p := ⟨w.heap.size + 1, 1, none⟩) (by show w.heap.size ≤ w.heap.size + 1; omega) _
        have hf2 := heap_setCell_same _ (w.heap.size + 1) 1 _ _ (.int .i64 (apartF was val)) (heap_setCell_same w1 (w.heap.size + 1) 0 _ _ (.int .i64 (0)) N3)
        rw [hf] at hf2
        have y0 : f.cell? ⟨w.heap.size + 1, 0, none⟩ = some (.int .i64 (0)) := cell_of_row _ _ 0 _ _ _ hf2
        have y1 : f.cell? ⟨w.heap.size + 1, 1, none⟩ = some (.int .i64 (apartF was val)) := cell_of_row _ _ 1 _ _ _ hf2
        have HFin := hide (And.intro hf (And.intro hfB (And.intro y0 y1)))
        clear hf hfB hf2 y0 y1 N3
        go_wp2_with fail
        refine (apart_any _ was val h1 h2 h3 h4).mono ?_
        rintro e w2 ⟨rfl, rfl⟩
        go_wp2
        obtain ⟨hf, hfB, y0, y1⟩ := HFin.out
        rw [hf]
        exact bodyPost_ret (v := .agg #[.int .i64 (0), .int .i64 (apartF was val)]) (by simp [results, Tryz.results24, go_sem, y0, y1]) rfl ⟨by rw [show partT 1 was val chg 0 = (0, apartF was val) by simp [partT]; omega], hfB⟩
      · have N0 := M0.out
        have c0 : u.cell? ⟨w.heap.size, 0, none⟩ = some (.int .u8 1) := cell_of_row _ _ 0 _ _ _ N0
        have c1 : u.cell? ⟨w.heap.size, 1, none⟩ = some (.int .i64 j1) := cell_of_row _ _ 1 _ _ _ N0
        have c2 : u.cell? ⟨w.heap.size, 2, none⟩ = some (.int .i64 j2) := cell_of_row _ _ 2 _ _ _ N0
        have c3 : u.cell? ⟨w.heap.size, 3, none⟩ = some (.int .i64 j3) := cell_of_row _ _ 3 _ _ _ N0
        have c4 : u.cell? ⟨w.heap.size, 4, none⟩ = some (.int .i64 j4) := cell_of_row _ _ 4 _ _ _ N0
        clear N0
        go_enter Tryz.func24, Tryz.ntmps24
        go_wp2_with fail
        rw [HU.out]
        refine (shares_any _ 1 j1 j2 j3 j4).mono ?_
        rintro e w1 ⟨rfl, hb⟩
        have HB := hide hb
        have hzw := hb.size
        clear c0 c1 c2 c3 c4
        have N3 := (hb.block _ hzu).trans M1.out
        clear hb
        have z0 : w1.cell? ⟨w.heap.size + 1, 0, none⟩ = some (.int .i64 0) := cell_of_row _ _ 0 _ _ _ N3
        have zf0 : w1.frozen? ⟨w.heap.size + 1, 0, none⟩ = false := frozen_of_row _ _ 0 _ _ N3
        have z1 : w1.cell? ⟨w.heap.size + 1, 1, none⟩ = some (.int .i64 0) := cell_of_row _ _ 1 _ _ _ N3
        have zf1 : w1.frozen? ⟨w.heap.size + 1, 1, none⟩ = false := frozen_of_row _ _ 1 _ _ N3
        obtain ⟨f, hf⟩ : ∃ z, (w1.setCell ⟨w.heap.size + 1, 0, none⟩ (.int .i64 (val))).setCell ⟨w.heap.size + 1, 1, none⟩ (.int .i64 (apartF was val)) = z := ⟨_, rfl⟩
        have hfB : Below w.heap.size w f := by rw [← hf]; exact ((hbu.out.trans (HB.out.mono (by omega))).setCell (p := ⟨w.heap.size + 1, 0, none⟩) (by show w.heap.size ≤ w.heap.size + 1; omega) _).setCell (p := ⟨w.heap.size + 1, 1, none⟩) (by show w.heap.size ≤ w.heap.size + 1; omega) _
        have hf2 := heap_setCell_same _ (w.heap.size + 1) 1 _ _ (.int .i64 (apartF was val)) (heap_setCell_same w1 (w.heap.size + 1) 0 _ _ (.int .i64 (val)) N3)
        rw [hf] at hf2
        have y0 : f.cell? ⟨w.heap.size + 1, 0, none⟩ = some (.int .i64 (val)) := cell_of_row _ _ 0 _ _ _ hf2
        have y1 : f.cell? ⟨w.heap.size + 1, 1, none⟩ = some (.int .i64 (apartF was val)) := cell_of_row _ _ 1 _ _ _ hf2
        have HFin := hide (And.intro hf (And.intro hfB (And.intro y0 y1)))
        clear hf hfB hf2 y0 y1 N3
        go_wp2_with fail
        refine (apart_any _ was val h1 h2 h3 h4).mono ?_
        rintro e w2 ⟨rfl, rfl⟩
        go_wp2
        obtain ⟨hf, hfB, y0, y1⟩ := HFin.out
        rw [hf]
        exact bodyPost_ret (v := .agg #[.int .i64 (val), .int .i64 (apartF was val)]) (by simp [results, Tryz.results24, go_sem, y0, y1]) rfl ⟨by rw [show partT 1 was val chg 0 = (val, apartF was val) by simp [partT]; omega], hfB⟩
    · have hn2 : ¬ (n : Int) = 0 := by omega
      have N0 := M0.out
      have c0 : u.cell? ⟨w.heap.size, 0, none⟩ = some (.int .u8 1) := cell_of_row _ _ 0 _ _ _ N0
      have c1 : u.cell? ⟨w.heap.size, 1, none⟩ = some (.int .i64 j1) := cell_of_row _ _ 1 _ _ _ N0
      have c2 : u.cell? ⟨w.heap.size, 2, none⟩ = some (.int .i64 j2) := cell_of_row _ _ 2 _ _ _ N0
      have c3 : u.cell? ⟨w.heap.size, 3, none⟩ = some (.int .i64 j3) := cell_of_row _ _ 3 _ _ _ N0
      have c4 : u.cell? ⟨w.heap.size, 4, none⟩ = some (.int .i64 j4) := cell_of_row _ _ 4 _ _ _ N0
      clear N0
      go_enter Tryz.func24, Tryz.ntmps24
      go_wp2_with fail
      rw [HU.out]
      refine (shares_any _ 1 j1 j2 j3 j4).mono ?_
      rintro e w1 ⟨rfl, hb⟩
      have HB := hide hb
      have hzw := hb.size
      clear c0 c1 c2 c3 c4
      have N3 := (hb.block _ hzu).trans M1.out
      clear hb
      have z0 : w1.cell? ⟨w.heap.size + 1, 0, none⟩ = some (.int .i64 0) := cell_of_row _ _ 0 _ _ _ N3
      have zf0 : w1.frozen? ⟨w.heap.size + 1, 0, none⟩ = false := frozen_of_row _ _ 0 _ _ N3
      have z1 : w1.cell? ⟨w.heap.size + 1, 1, none⟩ = some (.int .i64 0) := cell_of_row _ _ 1 _ _ _ N3
      have zf1 : w1.frozen? ⟨w.heap.size + 1, 1, none⟩ = false := frozen_of_row _ _ 1 _ _ N3
      obtain ⟨f, hf⟩ : ∃ z, (w1.setCell ⟨w.heap.size + 1, 0, none⟩ (.int .i64 (0))).setCell ⟨w.heap.size + 1, 1, none⟩ (.int .i64 (apartF was val)) = z := ⟨_, rfl⟩
      have hfB : Below w.heap.size w f := by rw [← hf]; exact ((hbu.out.trans (HB.out.mono (by omega))).setCell (p := ⟨w.heap.size + 1, 0, none⟩) (by show w.heap.size ≤ w.heap.size + 1; omega) _).setCell (p := ⟨w.heap.size + 1, 1, none⟩) (by show w.heap.size ≤ w.heap.size + 1; omega) _
      have hf2 := heap_setCell_same _ (w.heap.size + 1) 1 _ _ (.int .i64 (apartF was val)) (heap_setCell_same w1 (w.heap.size + 1) 0 _ _ (.int .i64 (0)) N3)
      rw [hf] at hf2
      have y0 : f.cell? ⟨w.heap.size + 1, 0, none⟩ = some (.int .i64 (0)) := cell_of_row _ _ 0 _ _ _ hf2
      have y1 : f.cell? ⟨w.heap.size + 1, 1, none⟩ = some (.int .i64 (apartF was val)) := cell_of_row _ _ 1 _ _ _ hf2
      have HFin := hide (And.intro hf (And.intro hfB (And.intro y0 y1)))
      clear hf hfB hf2 y0 y1 N3
      go_wp2_with fail
      refine (apart_any _ was val h1 h2 h3 h4).mono ?_
      rintro e w2 ⟨rfl, rfl⟩
      go_wp2
      obtain ⟨hf, hfB, y0, y1⟩ := HFin.out
      rw [hf]
      exact bodyPost_ret (v := .agg #[.int .i64 (0), .int .i64 (apartF was val)]) (by simp [results, Tryz.results24, go_sem, y0, y1]) rfl ⟨by rw [show partT 1 was val chg n = (0, apartF was val) by simp [partT, hn]], hfB⟩
  by_cases k2 : k = 2
  · subst k2
    cases chg
    · have N0 := M0.out
      have c0 : u.cell? ⟨w.heap.size, 0, none⟩ = some (.int .u8 2) := cell_of_row _ _ 0 _ _ _ N0
      have c1 : u.cell? ⟨w.heap.size, 1, none⟩ = some (.int .i64 j1) := cell_of_row _ _ 1 _ _ _ N0
      have c2 : u.cell? ⟨w.heap.size, 2, none⟩ = some (.int .i64 j2) := cell_of_row _ _ 2 _ _ _ N0
      have c3 : u.cell? ⟨w.heap.size, 3, none⟩ = some (.int .i64 j3) := cell_of_row _ _ 3 _ _ _ N0
      have c4 : u.cell? ⟨w.heap.size, 4, none⟩ = some (.int .i64 j4) := cell_of_row _ _ 4 _ _ _ N0
      clear N0
      go_enter Tryz.func24, Tryz.ntmps24
      go_wp2_with fail
      rw [HU.out]
      refine (shares_any _ 2 j1 j2 j3 j4).mono ?_
      rintro e w1 ⟨rfl, hb⟩
      have HB := hide hb
      have hzw := hb.size
      clear c0 c1 c2 c3 c4
      have N3 := (hb.block _ hzu).trans M1.out
      clear hb
      have z0 : w1.cell? ⟨w.heap.size + 1, 0, none⟩ = some (.int .i64 0) := cell_of_row _ _ 0 _ _ _ N3
      have zf0 : w1.frozen? ⟨w.heap.size + 1, 0, none⟩ = false := frozen_of_row _ _ 0 _ _ N3
      have z1 : w1.cell? ⟨w.heap.size + 1, 1, none⟩ = some (.int .i64 0) := cell_of_row _ _ 1 _ _ _ N3
      have zf1 : w1.frozen? ⟨w.heap.size + 1, 1, none⟩ = false := frozen_of_row _ _ 1 _ _ N3
      obtain ⟨f, hf⟩ : ∃ z, (w1.setCell ⟨w.heap.size + 1, 0, none⟩ (.int .i64 (0))).setCell ⟨w.heap.size + 1, 1, none⟩ (.int .i64 (0)) = z := ⟨_, rfl⟩
      have hfB : Below w.heap.size w f := by rw [← hf]; exact ((hbu.out.trans (HB.out.mono (by omega))).setCell (p := ⟨w.heap.size + 1, 0, none⟩) (by show w.heap.size ≤ w.heap.size + 1; omega) _).setCell (p := ⟨w.heap.size + 1, 1, none⟩) (by show w.heap.size ≤ w.heap.size + 1; omega) _
      have hf2 := heap_setCell_same _ (w.heap.size + 1) 1 _ _ (.int .i64 (0)) (heap_setCell_same w1 (w.heap.size + 1) 0 _ _ (.int .i64 (0)) N3)
      rw [hf] at hf2
      have y0 : f.cell? ⟨w.heap.size + 1, 0, none⟩ = some (.int .i64 (0)) := cell_of_row _ _ 0 _ _ _ hf2
      have y1 : f.cell? ⟨w.heap.size + 1, 1, none⟩ = some (.int .i64 (0)) := cell_of_row _ _ 1 _ _ _ hf2
      have HFin := hide (And.intro hf (And.intro hfB (And.intro y0 y1)))
      clear hf hfB hf2 y0 y1 N3
      go_wp2
      obtain ⟨hf, hfB, y0, y1⟩ := HFin.out
      rw [hf]
      exact bodyPost_ret (v := .agg #[.int .i64 (0), .int .i64 (0)]) (by simp [results, Tryz.results24, go_sem, y0, y1]) rfl ⟨by simp [partT], hfB⟩
    · have N0 := M0.out
      have c0 : u.cell? ⟨w.heap.size, 0, none⟩ = some (.int .u8 2) := cell_of_row _ _ 0 _ _ _ N0
      have c1 : u.cell? ⟨w.heap.size, 1, none⟩ = some (.int .i64 j1) := cell_of_row _ _ 1 _ _ _ N0
      have c2 : u.cell? ⟨w.heap.size, 2, none⟩ = some (.int .i64 j2) := cell_of_row _ _ 2 _ _ _ N0
      have c3 : u.cell? ⟨w.heap.size, 3, none⟩ = some (.int .i64 j3) := cell_of_row _ _ 3 _ _ _ N0
      have c4 : u.cell? ⟨w.heap.size, 4, none⟩ = some (.int .i64 j4) := cell_of_row _ _ 4 _ _ _ N0
      clear N0
      go_enter Tryz.func24, Tryz.ntmps24
      go_wp2_with fail
      rw [HU.out]
      refine (shares_any _ 2 j1 j2 j3 j4).mono ?_
      rintro e w1 ⟨rfl, hb⟩
      have HB := hide hb
      have hzw := hb.size
      clear c0 c1 c2 c3 c4
      have N3 := (hb.block _ hzu).trans M1.out
      clear hb
      have z0 : w1.cell? ⟨w.heap.size + 1, 0, none⟩ = some (.int .i64 0) := cell_of_row _ _ 0 _ _ _ N3
      have zf0 : w1.frozen? ⟨w.heap.size + 1, 0, none⟩ = false := frozen_of_row _ _ 0 _ _ N3
      have z1 : w1.cell? ⟨w.heap.size + 1, 1, none⟩ = some (.int .i64 0) := cell_of_row _ _ 1 _ _ _ N3
      have zf1 : w1.frozen? ⟨w.heap.size + 1, 1, none⟩ = false := frozen_of_row _ _ 1 _ _ N3
      obtain ⟨f, hf⟩ : ∃ z, (w1.setCell ⟨w.heap.size + 1, 0, none⟩ (.int .i64 (0))).setCell ⟨w.heap.size + 1, 1, none⟩ (.int .i64 (1)) = z := ⟨_, rfl⟩
      have hfB : Below w.heap.size w f := by rw [← hf]; exact ((hbu.out.trans (HB.out.mono (by omega))).setCell (p := ⟨w.heap.size + 1, 0, none⟩) (by show w.heap.size ≤ w.heap.size + 1; omega) _).setCell (p := ⟨w.heap.size + 1, 1, none⟩) (by show w.heap.size ≤ w.heap.size + 1; omega) _
      have hf2 := heap_setCell_same _ (w.heap.size + 1) 1 _ _ (.int .i64 (1)) (heap_setCell_same w1 (w.heap.size + 1) 0 _ _ (.int .i64 (0)) N3)
      rw [hf] at hf2
      have y0 : f.cell? ⟨w.heap.size + 1, 0, none⟩ = some (.int .i64 (0)) := cell_of_row _ _ 0 _ _ _ hf2
      have y1 : f.cell? ⟨w.heap.size + 1, 1, none⟩ = some (.int .i64 (1)) := cell_of_row _ _ 1 _ _ _ hf2
      have HFin := hide (And.intro hf (And.intro hfB (And.intro y0 y1)))
      clear hf hfB hf2 y0 y1 N3
      go_wp2
      obtain ⟨hf, hfB, y0, y1⟩ := HFin.out
      rw [hf]
      exact bodyPost_ret (v := .agg #[.int .i64 (0), .int .i64 (1)]) (by simp [results, Tryz.results24, go_sem, y0, y1]) rfl ⟨by simp [partT], hfB⟩
  by_cases k3 : k = 3
  · subst k3
    cases chg
    · have N0 := M0.out
      have c0 : u.cell? ⟨w.heap.size, 0, none⟩ = some (.int .u8 3) := cell_of_row _ _ 0 _ _ _ N0
      have c1 : u.cell? ⟨w.heap.size, 1, none⟩ = some (.int .i64 j1) := cell_of_row _ _ 1 _ _ _ N0
      have c2 : u.cell? ⟨w.heap.size, 2, none⟩ = some (.int .i64 j2) := cell_of_row _ _ 2 _ _ _ N0
      have c3 : u.cell? ⟨w.heap.size, 3, none⟩ = some (.int .i64 j3) := cell_of_row _ _ 3 _ _ _ N0
      have c4 : u.cell? ⟨w.heap.size, 4, none⟩ = some (.int .i64 j4) := cell_of_row _ _ 4 _ _ _ N0
      clear N0
      go_enter Tryz.func24, Tryz.ntmps24
      go_wp2_with fail
      rw [HU.out]
      refine (shares_any _ 3 j1 j2 j3 j4).mono ?_
      rintro e w1 ⟨rfl, hb⟩
      have HB := hide hb
      have hzw := hb.size
      clear c0 c1 c2 c3 c4
      have N3 := (hb.block _ hzu).trans M1.out
      clear hb
      have z0 : w1.cell? ⟨w.heap.size + 1, 0, none⟩ = some (.int .i64 0) := cell_of_row _ _ 0 _ _ _ N3
      have zf0 : w1.frozen? ⟨w.heap.size + 1, 0, none⟩ = false := frozen_of_row _ _ 0 _ _ N3
      have z1 : w1.cell? ⟨w.heap.size + 1, 1, none⟩ = some (.int .i64 0) := cell_of_row _ _ 1 _ _ _ N3
      have zf1 : w1.frozen? ⟨w.heap.size + 1, 1, none⟩ = false := frozen_of_row _ _ 1 _ _ N3
      obtain ⟨f, hf⟩ : ∃ z, (w1.setCell ⟨w.heap.size + 1, 0, none⟩ (.int .i64 (0))).setCell ⟨w.heap.size + 1, 1, none⟩ (.int .i64 (0)) = z := ⟨_, rfl⟩
      have hfB : Below w.heap.size w f := by rw [← hf]; exact ((hbu.out.trans (HB.out.mono (by omega))).setCell (p := ⟨w.heap.size + 1, 0, none⟩) (by show w.heap.size ≤ w.heap.size + 1; omega) _).setCell (p := ⟨w.heap.size + 1, 1, none⟩) (by show w.heap.size ≤ w.heap.size + 1; omega) _
      have hf2 := heap_setCell_same _ (w.heap.size + 1) 1 _ _ (.int .i64 (0)) (heap_setCell_same w1 (w.heap.size + 1) 0 _ _ (.int .i64 (0)) N3)
      rw [hf] at hf2
      have y0 : f.cell? ⟨w.heap.size + 1, 0, none⟩ = some (.int .i64 (0)) := cell_of_row _ _ 0 _ _ _ hf2
      have y1 : f.cell? ⟨w.heap.size + 1, 1, none⟩ = some (.int .i64 (0)) := cell_of_row _ _ 1 _ _ _ hf2
      have HFin := hide (And.intro hf (And.intro hfB (And.intro y0 y1)))
      clear hf hfB hf2 y0 y1 N3
      go_wp2
      obtain ⟨hf, hfB, y0, y1⟩ := HFin.out
      rw [hf]
      exact bodyPost_ret (v := .agg #[.int .i64 (0), .int .i64 (0)]) (by simp [results, Tryz.results24, go_sem, y0, y1]) rfl ⟨by simp [partT], hfB⟩
    · have N0 := M0.out
      have c0 : u.cell? ⟨w.heap.size, 0, none⟩ = some (.int .u8 3) := cell_of_row _ _ 0 _ _ _ N0
      have c1 : u.cell? ⟨w.heap.size, 1, none⟩ = some (.int .i64 j1) := cell_of_row _ _ 1 _ _ _ N0
      have c2 : u.cell? ⟨w.heap.size, 2, none⟩ = some (.int .i64 j2) := cell_of_row _ _ 2 _ _ _ N0
      have c3 : u.cell? ⟨w.heap.size, 3, none⟩ = some (.int .i64 j3) := cell_of_row _ _ 3 _ _ _ N0
      have c4 : u.cell? ⟨w.heap.size, 4, none⟩ = some (.int .i64 j4) := cell_of_row _ _ 4 _ _ _ N0
      clear N0
      go_enter Tryz.func24, Tryz.ntmps24
      go_wp2_with fail
      rw [HU.out]
      refine (shares_any _ 3 j1 j2 j3 j4).mono ?_
      rintro e w1 ⟨rfl, hb⟩
      have HB := hide hb
      have hzw := hb.size
      clear c0 c1 c2 c3 c4
      have N3 := (hb.block _ hzu).trans M1.out
      clear hb
      have z0 : w1.cell? ⟨w.heap.size + 1, 0, none⟩ = some (.int .i64 0) := cell_of_row _ _ 0 _ _ _ N3
      have zf0 : w1.frozen? ⟨w.heap.size + 1, 0, none⟩ = false := frozen_of_row _ _ 0 _ _ N3
      have z1 : w1.cell? ⟨w.heap.size + 1, 1, none⟩ = some (.int .i64 0) := cell_of_row _ _ 1 _ _ _ N3
      have zf1 : w1.frozen? ⟨w.heap.size + 1, 1, none⟩ = false := frozen_of_row _ _ 1 _ _ N3
      obtain ⟨f, hf⟩ : ∃ z, (w1.setCell ⟨w.heap.size + 1, 0, none⟩ (.int .i64 (0))).setCell ⟨w.heap.size + 1, 1, none⟩ (.int .i64 (1)) = z := ⟨_, rfl⟩
      have hfB : Below w.heap.size w f := by rw [← hf]; exact ((hbu.out.trans (HB.out.mono (by omega))).setCell (p := ⟨w.heap.size + 1, 0, none⟩) (by show w.heap.size ≤ w.heap.size + 1; omega) _).setCell (p := ⟨w.heap.size + 1, 1, none⟩) (by show w.heap.size ≤ w.heap.size + 1; omega) _
      have hf2 := heap_setCell_same _ (w.heap.size + 1) 1 _ _ (.int .i64 (1)) (heap_setCell_same w1 (w.heap.size + 1) 0 _ _ (.int .i64 (0)) N3)
      rw [hf] at hf2
      have y0 : f.cell? ⟨w.heap.size + 1, 0, none⟩ = some (.int .i64 (0)) := cell_of_row _ _ 0 _ _ _ hf2
      have y1 : f.cell? ⟨w.heap.size + 1, 1, none⟩ = some (.int .i64 (1)) := cell_of_row _ _ 1 _ _ _ hf2
      have HFin := hide (And.intro hf (And.intro hfB (And.intro y0 y1)))
      clear hf hfB hf2 y0 y1 N3
      go_wp2
      obtain ⟨hf, hfB, y0, y1⟩ := HFin.out
      rw [hf]
      exact bodyPost_ret (v := .agg #[.int .i64 (0), .int .i64 (1)]) (by simp [results, Tryz.results24, go_sem, y0, y1]) rfl ⟨by simp [partT], hfB⟩
  obtain ⟨hk1, hk2, hk3⟩ : decide (k = 1) = false ∧ decide (k = 2) = false ∧ decide (k = 3) = false := by simp [k1, k2, k3]
  have N0 := M0.out
  have c0 : u.cell? ⟨w.heap.size, 0, none⟩ = some (.int .u8 k) := cell_of_row _ _ 0 _ _ _ N0
  have c1 : u.cell? ⟨w.heap.size, 1, none⟩ = some (.int .i64 j1) := cell_of_row _ _ 1 _ _ _ N0
  have c2 : u.cell? ⟨w.heap.size, 2, none⟩ = some (.int .i64 j2) := cell_of_row _ _ 2 _ _ _ N0
  have c3 : u.cell? ⟨w.heap.size, 3, none⟩ = some (.int .i64 j3) := cell_of_row _ _ 3 _ _ _ N0
  have c4 : u.cell? ⟨w.heap.size, 4, none⟩ = some (.int .i64 j4) := cell_of_row _ _ 4 _ _ _ N0
  clear N0
  go_enter Tryz.func24, Tryz.ntmps24
  go_wp2_with fail
  rw [HU.out]
  refine (shares_any _ k j1 j2 j3 j4).mono ?_
  rintro e w1 ⟨rfl, hb⟩
  have HB := hide hb
  have hzw := hb.size
  clear c0 c1 c2 c3 c4
  have N3 := (hb.block _ hzu).trans M1.out
  clear hb
  rw [hk1, hk2, hk3]
  have z0 : w1.cell? ⟨w.heap.size + 1, 0, none⟩ = some (.int .i64 0) := cell_of_row _ _ 0 _ _ _ N3
  have zf0 : w1.frozen? ⟨w.heap.size + 1, 0, none⟩ = false := frozen_of_row _ _ 0 _ _ N3
  have z1 : w1.cell? ⟨w.heap.size + 1, 1, none⟩ = some (.int .i64 0) := cell_of_row _ _ 1 _ _ _ N3
  have zf1 : w1.frozen? ⟨w.heap.size + 1, 1, none⟩ = false := frozen_of_row _ _ 1 _ _ N3
  obtain ⟨f, hf⟩ : ∃ z, (w1.setCell ⟨w.heap.size + 1, 0, none⟩ (.int .i64 (0))).setCell ⟨w.heap.size + 1, 1, none⟩ (.int .i64 (0)) = z := ⟨_, rfl⟩
  have hfB : Below w.heap.size w f := by rw [← hf]; exact ((hbu.out.trans (HB.out.mono (by omega))).setCell (p := ⟨w.heap.size + 1, 0, none⟩) (by show w.heap.size ≤ w.heap.size + 1; omega) _).setCell (p := ⟨w.heap.size + 1, 1, none⟩) (by show w.heap.size ≤ w.heap.size + 1; omega) _
  have hf2 := heap_setCell_same _ (w.heap.size + 1) 1 _ _ (.int .i64 (0)) (heap_setCell_same w1 (w.heap.size + 1) 0 _ _ (.int .i64 (0)) N3)
  rw [hf] at hf2
  have y0 : f.cell? ⟨w.heap.size + 1, 0, none⟩ = some (.int .i64 (0)) := cell_of_row _ _ 0 _ _ _ hf2
  have y1 : f.cell? ⟨w.heap.size + 1, 1, none⟩ = some (.int .i64 (0)) := cell_of_row _ _ 1 _ _ _ hf2
  have HFin := hide (And.intro hf (And.intro hfB (And.intro y0 y1)))
  clear hf hfB hf2 y0 y1 N3
  go_wp2
  obtain ⟨hf, hfB, y0, y1⟩ := HFin.out
  rw [hf]
  exact bodyPost_ret (v := .agg #[.int .i64 (0), .int .i64 (0)]) (by simp [results, Tryz.results24, go_sem, y0, y1]) rfl ⟨by simp [partT, k1, k2, k3], hfB⟩
end Go.Proofs.YtihlhkbdgbkafaaGreat
namespace Go.Proofs.YtihlhkbdgbkafaaGreat
open Go.RowKit
set_option linter.unusedVariables false
set_option linter.unusedSimpArgs false
set_option maxRecDepth 100000 in
set_option maxHeartbeats 4000000 in
theorem rpart_any (w : World) (k j1 j2 j3 j4 was val : Int) (chg : Bool) (A : Option Addr) (n c : Nat) : Calls Tryz.prog 25 #[.agg #[.int .u8 k, .int .i64 j1, .int .i64 j2, .int .i64 j3, .int .i64 j4], .int .i64 was, .int .i64 val, .bool chg, .slice A n c] w fun e w' => e = .returned (.agg #[.int .i64 (partT k was val chg n).1, .int .i64 (partT k was val chg n).2]) ∧ Below w.heap.size w w' := by
  obtain ⟨u, hu⟩ : ∃ u, (w.alloc (.cells #[.int .u8 k, .int .i64 j1, .int .i64 j2, .int .i64 j3, .int .i64 j4] 28)).alloc (.cells #[.int .i64 0, .int .i64 0] 50) = u := ⟨_, rfl⟩
  have hzu : w.heap.size + 1 < u.heap.size := by rw [← hu]; simp
  have hbu := hide (show Below w.heap.size w u by rw [← hu]; exact ((Below.refl _ _).alloc (Nat.le_refl _) _).alloc (by simp) _)
  have M1 := hide (show u.heap[w.heap.size + 1]? = some (.cells #[.int .i64 0, .int .i64 0] 50) by rw [← hu]; have h := heap_alloc_last (w.alloc (.cells #[.int .u8 k, .int .i64 j1, .int .i64 j2, .int .i64 j3, .int .i64 j4] 28)) (.cells #[.int .i64 0, .int .i64 0] 50); simpa using h)
  have M0 := hide (show u.heap[w.heap.size]? = some (.cells #[.int .u8 k, .int .i64 j1, .int .i64 j2, .int .i64 j3, .int .i64 j4] 28) by rw [← hu]; exact heap_alloc_keep (heap_alloc_last _ _))
  have HU := hide hu
  clear hu
  by_cases k1 : k = 1
  · subst k1
    by_cases hn : n = 0
    · subst hn
      by_cases hlt : val < 0
      · have N0 := M0.out
        have c0 : u.cell? ⟨w.heap.size, 0, none⟩ = some (.int .u8 1) := cell_of_row _ _ 0 _ _ _ N0
        have c1 : u.cell? ⟨w.heap.size, 1, none⟩ = some (.int .i64 j1) := cell_of_row _ _ 1 _ _ _ N0
        have c2 : u.cell? ⟨w.heap.size, 2, none⟩ = some (.int .i64 j2) := cell_of_row _ _ 2 _ _ _ N0
        have c3 : u.cell? ⟨w.heap.size, 3, none⟩ = some (.int .i64 j3) := cell_of_row _ _ 3 _ _ _ N0
        have c4 : u.cell? ⟨w.heap.size, 4, none⟩ = some (.int .i64 j4) := cell_of_row _ _ 4 _ _ _ N0
        clear N0
        go_enter Tryz.func25, Tryz.ntmps25
        go_wp2_with fail
        rw [HU.out]
        refine (rapart_any _ was val).mono ?_
        rintro e w1 ⟨rfl, rfl⟩
        go_upto_region 4 with fail
        obtain ⟨u2, hu2⟩ : ∃ z, u.alloc (.cells #[.int .i64 0, .int .i64 (apartF was val)] 50) = z := ⟨_, rfl⟩
        rw [hu2]
        have hb2 : Below u.heap.size u u2 := by rw [← hu2]; exact (Below.refl _ _).alloc (Nat.le_refl _) _
        have K2 : u2.heap[u.heap.size]? = some (.cells #[.int .i64 0, .int .i64 (apartF was val)] 50) := by rw [← hu2]; exact heap_alloc_last _ _
        have hz2 : u.heap.size < u2.heap.size := by rw [← hu2]; simp
        clear hu2 c0 c1 c2 c3 c4
        have q0 : u2.cell? ⟨u.heap.size, 0, none⟩ = some (.int .i64 0) := cell_of_row _ _ 0 _ _ _ K2
        have qf : u2.frozen? ⟨u.heap.size, 0, none⟩ = false := frozen_of_row _ _ 0 _ _ K2
        have K3 := heap_setCell_same u2 u.heap.size 0 _ _ (.int .i64 (0)) K2
        have hb3 := hb2.setCell (p := ⟨u.heap.size, 0, none⟩) (Nat.le_refl _) (.int .i64 (0))
        obtain ⟨u3, hu3⟩ : ∃ z, u2.setCell ⟨u.heap.size, 0, none⟩ (.int .i64 (0)) = z := ⟨_, rfl⟩
        rw [hu3] at K3 hb3
        have HU3 := hide hu3
        have HB3 := hide hb3
        have KK := hide K3
        have HB2 := hide hb2
        clear hu3 K2 K3 hb3 hb2
        go_upto_region 6 with fail
        rw [HU3.out]
        have K3 := KK.out
        have r0 : u3.cell? ⟨u.heap.size, 0, none⟩ = some (.int .i64 (0)) := cell_of_row _ _ 0 _ _ _ K3
        have r1 : u3.cell? ⟨u.heap.size, 1, none⟩ = some (.int .i64 (apartF was val)) := cell_of_row _ _ 1 _ _ _ K3
        have lk := lt_of_block K3
        clear K3
        have N3 := (HB3.out.block _ hzu).trans M1.out
        have z0 : u3.cell? ⟨w.heap.size + 1, 0, none⟩ = some (.int .i64 0) := cell_of_row _ _ 0 _ _ _ N3
        have zf0 : u3.frozen? ⟨w.heap.size + 1, 0, none⟩ = false := frozen_of_row _ _ 0 _ _ N3
        have z1 : u3.cell? ⟨w.heap.size + 1, 1, none⟩ = some (.int .i64 0) := cell_of_row _ _ 1 _ _ _ N3
        have zf1 : u3.frozen? ⟨w.heap.size + 1, 1, none⟩ = false := frozen_of_row _ _ 1 _ _ N3
        obtain ⟨f, hf⟩ : ∃ z, (u3.setCell ⟨w.heap.size + 1, 0, none⟩ (.int .i64 (0))).setCell ⟨w.heap.size + 1, 1, none⟩ (.int .i64 (apartF was val)) = z := ⟨_, rfl⟩
        have hfB : Below w.heap.size w f := by rw [← hf]; exact ((hbu.out.trans (HB3.out.mono (by omega))).setCell (p := ⟨w.heap.size + 1, 0, none⟩) (by show w.heap.size ≤ w.heap.size + 1; omega) _).setCell (p := ⟨w.heap.size + 1, 1, none⟩) (by show w.heap.size ≤ w.heap.size + 1; omega) _
        have hf2 := heap_setCell_same _ (w.heap.size + 1) 1 _ _ (.int .i64 (apartF was val)) (heap_setCell_same u3 (w.heap.size + 1) 0 _ _ (.int .i64 (0)) N3)
        rw [hf] at hf2
        have y0 : f.cell? ⟨w.heap.size + 1, 0, none⟩ = some (.int .i64 (0)) := cell_of_row _ _ 0 _ _ _ hf2
        have y1 : f.cell? ⟨w.heap.size + 1, 1, none⟩ = some (.int .i64 (apartF was val)) := cell_of_row _ _ 1 _ _ _ hf2
        have HFin := hide (And.intro hf (And.intro hfB (And.intro y0 y1)))
        clear hf hfB hf2 y0 y1 N3
        go_wp2
        obtain ⟨hf, hfB, y0, y1⟩ := HFin.out
        rw [hf]
        exact bodyPost_ret (v := .agg #[.int .i64 (0), .int .i64 (apartF was val)]) (by simp [results, Tryz.results25, go_sem, y0, y1]) rfl ⟨by rw [show partT 1 was val chg 0 = (0, apartF was val) by simp [partT]; omega], hfB⟩
      · have N0 := M0.out
        have c0 : u.cell? ⟨w.heap.size, 0, none⟩ = some (.int .u8 1) := cell_of_row _ _ 0 _ _ _ N0
        have c1 : u.cell? ⟨w.heap.size, 1, none⟩ = some (.int .i64 j1) := cell_of_row _ _ 1 _ _ _ N0
        have c2 : u.cell? ⟨w.heap.size, 2, none⟩ = some (.int .i64 j2) := cell_of_row _ _ 2 _ _ _ N0
        have c3 : u.cell? ⟨w.heap.size, 3, none⟩ = some (.int .i64 j3) := cell_of_row _ _ 3 _ _ _ N0
        have c4 : u.cell? ⟨w.heap.size, 4, none⟩ = some (.int .i64 j4) := cell_of_row _ _ 4 _ _ _ N0
        clear N0
        go_enter Tryz.func25, Tryz.ntmps25
        go_wp2_with fail
        rw [HU.out]
        refine (rapart_any _ was val).mono ?_
        rintro e w1 ⟨rfl, rfl⟩
        go_upto_region 4 with fail
        obtain ⟨u2, hu2⟩ : ∃ z, u.alloc (.cells #[.int .i64 0, .int .i64 (apartF was val)] 50) = z := ⟨_, rfl⟩
        rw [hu2]
        have hb2 : Below u.heap.size u u2 := by rw [← hu2]; exact (Below.refl _ _).alloc (Nat.le_refl _) _
        have K2 : u2.heap[u.heap.size]? = some (.cells #[.int .i64 0, .int .i64 (apartF was val)] 50) := by rw [← hu2]; exact heap_alloc_last _ _
        have hz2 : u.heap.size < u2.heap.size := by rw [← hu2]; simp
        clear hu2 c0 c1 c2 c3 c4
        have q0 : u2.cell? ⟨u.heap.size, 0, none⟩ = some (.int .i64 0) := cell_of_row _ _ 0 _ _ _ K2
        have qf : u2.frozen? ⟨u.heap.size, 0, none⟩ = false := frozen_of_row _ _ 0 _ _ K2
        have K3 := heap_setCell_same u2 u.heap.size 0 _ _ (.int .i64 (val)) K2
        have hb3 := hb2.setCell (p := ⟨u.heap.size, 0, none⟩) (Nat.le_refl _) (.int .i64 (val))
        obtain ⟨u3, hu3⟩ : ∃ z, u2.setCell ⟨u.heap.size, 0, none⟩ (.int .i64 (val)) = z := ⟨_, rfl⟩
        rw [hu3] at K3 hb3
        have HU3 := hide hu3
        have HB3 := hide hb3
        have KK := hide K3
        have HB2 := hide hb2
        clear hu3 K2 K3 hb3 hb2
        go_upto_region 6 with fail
        rw [HU3.out]
        have K3 := KK.out
        have r0 : u3.cell? ⟨u.heap.size, 0, none⟩ = some (.int .i64 (val)) := cell_of_row _ _ 0 _ _ _ K3
        have r1 : u3.cell? ⟨u.heap.size, 1, none⟩ = some (.int .i64 (apartF was val)) := cell_of_row _ _ 1 _ _ _ K3
        have lk := lt_of_block K3
        clear K3
        have N3 := (HB3.out.block _ hzu).trans M1.out
        have z0 : u3.cell? ⟨w.heap.size + 1, 0, none⟩ = some (.int .i64 0) := cell_of_row _ _ 0 _ _ _ N3
        have zf0 : u3.frozen? ⟨w.heap.size + 1, 0, none⟩ = false := frozen_of_row _ _ 0 _ _ N3
        have z1 : u3.cell? ⟨w.heap.size + 1, 1, none⟩ = some (.int .i64 0) := cell_of_row _ _ 1 _ _ _ N3
        have zf1 : u3.frozen? ⟨w.heap.size + 1, 1, none⟩ = false := frozen_of_row _ _ 1 _ _ N3
        obtain ⟨f, hf⟩ : ∃ z, (u3.setCell ⟨w.heap.size + 1, 0, none⟩ (.int .i64 (val))).setCell ⟨w.heap.size + 1, 1, none⟩ (.int .i64 (apartF was val)) = z := ⟨_, rfl⟩
        have hfB : Below w.heap.size w f := by rw [← hf]; exact ((hbu.out.trans (HB3.out.mono (by omega))).setCell (p := ⟨w.heap.size + 1, 0, none⟩) (by show w.heap.size ≤ w.heap.size + 1; omega) _).setCell (p := ⟨w.heap.size + 1, 1, none⟩) (by show w.heap.size ≤ w.heap.size + 1; omega) _
        have hf2 := heap_setCell_same _ (w.heap.size + 1) 1 _ _ (.int .i64 (apartF was val)) (heap_setCell_same u3 (w.heap.size + 1) 0 _ _ (.int .i64 (val)) N3)
        rw [hf] at hf2
        have y0 : f.cell? ⟨w.heap.size + 1, 0, none⟩ = some (.int .i64 (val)) := cell_of_row _ _ 0 _ _ _ hf2
        have y1 : f.cell? ⟨w.heap.size + 1, 1, none⟩ = some (.int .i64 (apartF was val)) := cell_of_row _ _ 1 _ _ _ hf2
        have HFin := hide (And.intro hf (And.intro hfB (And.intro y0 y1)))
        clear hf hfB hf2 y0 y1 N3
        go_wp2
        obtain ⟨hf, hfB, y0, y1⟩ := HFin.out
        rw [hf]
        exact bodyPost_ret (v := .agg #[.int .i64 (val), .int .i64 (apartF was val)]) (by simp [results, Tryz.results25, go_sem, y0, y1]) rfl ⟨by rw [show partT 1 was val chg 0 = (val, apartF was val) by simp [partT]; omega], hfB⟩
    · have hn2 : ¬ (n : Int) = 0 := by omega
      have N0 := M0.out
      have c0 : u.cell? ⟨w.heap.size, 0, none⟩ = some (.int .u8 1) := cell_of_row _ _ 0 _ _ _ N0
      have c1 : u.cell? ⟨w.heap.size, 1, none⟩ = some (.int .i64 j1) := cell_of_row _ _ 1 _ _ _ N0
      have c2 : u.cell? ⟨w.heap.size, 2, none⟩ = some (.int .i64 j2) := cell_of_row _ _ 2 _ _ _ N0
      have c3 : u.cell? ⟨w.heap.size, 3, none⟩ = some (.int .i64 j3) := cell_of_row _ _ 3 _ _ _ N0
      have c4 : u.cell? ⟨w.heap.size, 4, none⟩ = some (.int .i64 j4) := cell_of_row _ _ 4 _ _ _ N0
      clear N0
      go_enter Tryz.func25, Tryz.ntmps25
      go_wp2_with fail
      rw [HU.out]
      refine (rapart_any _ was val).mono ?_
      rintro e w1 ⟨rfl, rfl⟩
      go_upto_region 4 with fail
      obtain ⟨u2, hu2⟩ : ∃ z, u.alloc (.cells #[.int .i64 0, .int .i64 (apartF was val)] 50) = z := ⟨_, rfl⟩
      rw [hu2]
      have hb2 : Below u.heap.size u u2 := by rw [← hu2]; exact (Below.refl _ _).alloc (Nat.le_refl _) _
      have K2 : u2.heap[u.heap.size]? = some (.cells #[.int .i64 0, .int .i64 (apartF was val)] 50) := by rw [← hu2]; exact heap_alloc_last _ _
      have hz2 : u.heap.size < u2.heap.size := by rw [← hu2]; simp
      clear hu2 c0 c1 c2 c3 c4
      have HB3 := hide hb2
      have K3 := K2
      clear hb2 K2
      go_upto_region 6 with fail
      have r0 : u2.cell? ⟨u.heap.size, 0, none⟩ = some (.int .i64 (0)) := cell_of_row _ _ 0 _ _ _ K3
      have r1 : u2.cell? ⟨u.heap.size, 1, none⟩ = some (.int .i64 (apartF was val)) := cell_of_row _ _ 1 _ _ _ K3
      have lk := lt_of_block K3
      clear K3
      have N3 := (HB3.out.block _ hzu).trans M1.out
      have z0 : u2.cell? ⟨w.heap.size + 1, 0, none⟩ = some (.int .i64 0) := cell_of_row _ _ 0 _ _ _ N3
      have zf0 : u2.frozen? ⟨w.heap.size + 1, 0, none⟩ = false := frozen_of_row _ _ 0 _ _ N3
      have z1 : u2.cell? ⟨w.heap.size + 1, 1, none⟩ = some (.int .i64 0) := cell_of_row _ _ 1 _ _ _ N3
      have zf1 : u2.frozen? ⟨w.heap.size + 1, 1, none⟩ = false := frozen_of_row _ _ 1 _ _ N3
      obtain ⟨f, hf⟩ : ∃ z, (u2.setCell ⟨w.heap.size + 1, 0, none⟩ (.int .i64 (0))).setCell ⟨w.heap.size + 1, 1, none⟩ (.int .i64 (apartF was val)) = z := ⟨_, rfl⟩
      have hfB : Below w.heap.size w f := by rw [← hf]; exact ((hbu.out.trans (HB3.out.mono (by omega))).setCell (p := ⟨w.heap.size + 1, 0, none⟩) (by show w.heap.size ≤ w.heap.size + 1; omega) _).setCell (p := ⟨w.heap.size + 1, 1, none⟩) (by show w.heap.size ≤ w.heap.size + 1; omega) _
      have hf2 := heap_setCell_same _ (w.heap.size + 1) 1 _ _ (.int .i64 (apartF was val)) (heap_setCell_same u2 (w.heap.size + 1) 0 _ _ (.int .i64 (0)) N3)
      rw [hf] at hf2
      have y0 : f.cell? ⟨w.heap.size + 1, 0, none⟩ = some (.int .i64 (0)) := cell_of_row _ _ 0 _ _ _ hf2
      have y1 : f.cell? ⟨w.heap.size + 1, 1, none⟩ = some (.int .i64 (apartF was val)) := cell_of_row _ _ 1 _ _ _ hf2
      have HFin := hide (And.intro hf (And.intro hfB (And.intro y0 y1)))
      clear hf hfB hf2 y0 y1 N3
      go_wp2
      obtain ⟨hf, hfB, y0, y1⟩ := HFin.out
      rw [hf]
      exact bodyPost_ret (v := .agg #[.int .i64 (0), .int .i64 (apartF was val)]) (by simp [results, Tryz.results25, go_sem, y0, y1]) rfl ⟨by rw [show partT 1 was val chg n = (0, apartF was val) by simp [partT, hn]], hfB⟩
  by_cases k2 : k = 2
  · subst k2
    cases chg
    · have N0 := M0.out
      have c0 : u.cell? ⟨w.heap.size, 0, none⟩ = some (.int .u8 2) := cell_of_row _ _ 0 _ _ _ N0
      have c1 : u.cell? ⟨w.heap.size, 1, none⟩ = some (.int .i64 j1) := cell_of_row _ _ 1 _ _ _ N0
      have c2 : u.cell? ⟨w.heap.size, 2, none⟩ = some (.int .i64 j2) := cell_of_row _ _ 2 _ _ _ N0
      have c3 : u.cell? ⟨w.heap.size, 3, none⟩ = some (.int .i64 j3) := cell_of_row _ _ 3 _ _ _ N0
      have c4 : u.cell? ⟨w.heap.size, 4, none⟩ = some (.int .i64 j4) := cell_of_row _ _ 4 _ _ _ N0
      clear N0
      go_enter Tryz.func25, Tryz.ntmps25
      go_upto_region 1 with fail
      rw [HU.out]
      have N3 := M1.out
      have z0 : u.cell? ⟨w.heap.size + 1, 0, none⟩ = some (.int .i64 0) := cell_of_row _ _ 0 _ _ _ N3
      have zf0 : u.frozen? ⟨w.heap.size + 1, 0, none⟩ = false := frozen_of_row _ _ 0 _ _ N3
      have z1 : u.cell? ⟨w.heap.size + 1, 1, none⟩ = some (.int .i64 0) := cell_of_row _ _ 1 _ _ _ N3
      have zf1 : u.frozen? ⟨w.heap.size + 1, 1, none⟩ = false := frozen_of_row _ _ 1 _ _ N3
      obtain ⟨f, hf⟩ : ∃ z, (u.setCell ⟨w.heap.size + 1, 0, none⟩ (.int .i64 (0))).setCell ⟨w.heap.size + 1, 1, none⟩ (.int .i64 (0)) = z := ⟨_, rfl⟩
      have hfB : Below w.heap.size w f := by rw [← hf]; exact ((hbu.out).setCell (p := ⟨w.heap.size + 1, 0, none⟩) (by show w.heap.size ≤ w.heap.size + 1; omega) _).setCell (p := ⟨w.heap.size + 1, 1, none⟩) (by show w.heap.size ≤ w.heap.size + 1; omega) _
      have hf2 := heap_setCell_same _ (w.heap.size + 1) 1 _ _ (.int .i64 (0)) (heap_setCell_same u (w.heap.size + 1) 0 _ _ (.int .i64 (0)) N3)
      rw [hf] at hf2
      have y0 : f.cell? ⟨w.heap.size + 1, 0, none⟩ = some (.int .i64 (0)) := cell_of_row _ _ 0 _ _ _ hf2
      have y1 : f.cell? ⟨w.heap.size + 1, 1, none⟩ = some (.int .i64 (0)) := cell_of_row _ _ 1 _ _ _ hf2
      have HFin := hide (And.intro hf (And.intro hfB (And.intro y0 y1)))
      clear hf hfB hf2 y0 y1 N3
      go_wp2
      obtain ⟨hf, hfB, y0, y1⟩ := HFin.out
      rw [hf]
      exact bodyPost_ret (v := .agg #[.int .i64 (0), .int .i64 (0)]) (by simp [results, Tryz.results25, go_sem, y0, y1]) rfl ⟨by simp [partT], hfB⟩
    · have N0 := M0.out
      have c0 : u.cell? ⟨w.heap.size, 0, none⟩ = some (.int .u8 2) := cell_of_row _ _ 0 _ _ _ N0
      have c1 : u.cell? ⟨w.heap.size, 1, none⟩ = some (.int .i64 j1) := cell_of_row _ _ 1 _ _ _ N0
      have c2 : u.cell? ⟨w.heap.size, 2, none⟩ = some (.int .i64 j2) := cell_of_row _ _ 2 _ _ _ N0
      have c3 : u.cell? ⟨w.heap.size, 3, none⟩ = some (.int .i64 j3) := cell_of_row _ _ 3 _ _ _ N0
      have c4 : u.cell? ⟨w.heap.size, 4, none⟩ = some (.int .i64 j4) := cell_of_row _ _ 4 _ _ _ N0
      clear N0
      go_enter Tryz.func25, Tryz.ntmps25
      go_upto_region 1 with fail
      rw [HU.out]
      have N3 := M1.out
      have z0 : u.cell? ⟨w.heap.size + 1, 0, none⟩ = some (.int .i64 0) := cell_of_row _ _ 0 _ _ _ N3
      have zf0 : u.frozen? ⟨w.heap.size + 1, 0, none⟩ = false := frozen_of_row _ _ 0 _ _ N3
      have z1 : u.cell? ⟨w.heap.size + 1, 1, none⟩ = some (.int .i64 0) := cell_of_row _ _ 1 _ _ _ N3
      have zf1 : u.frozen? ⟨w.heap.size + 1, 1, none⟩ = false := frozen_of_row _ _ 1 _ _ N3
      obtain ⟨f, hf⟩ : ∃ z, (u.setCell ⟨w.heap.size + 1, 0, none⟩ (.int .i64 (0))).setCell ⟨w.heap.size + 1, 1, none⟩ (.int .i64 (1)) = z := ⟨_, rfl⟩
      have hfB : Below w.heap.size w f := by rw [← hf]; exact ((hbu.out).setCell (p := ⟨w.heap.size + 1, 0, none⟩) (by show w.heap.size ≤ w.heap.size + 1; omega) _).setCell (p := ⟨w.heap.size + 1, 1, none⟩) (by show w.heap.size ≤ w.heap.size + 1; omega) _
      have hf2 := heap_setCell_same _ (w.heap.size + 1) 1 _ _ (.int .i64 (1)) (heap_setCell_same u (w.heap.size + 1) 0 _ _ (.int .i64 (0)) N3)
      rw [hf] at hf2
      have y0 : f.cell? ⟨w.heap.size + 1, 0, none⟩ = some (.int .i64 (0)) := cell_of_row _ _ 0 _ _ _ hf2
      have y1 : f.cell? ⟨w.heap.size + 1, 1, none⟩ = some (.int .i64 (1)) := cell_of_row _ _ 1 _ _ _ hf2
      have HFin := hide (And.intro hf (And.intro hfB (And.intro y0 y1)))
      clear hf hfB hf2 y0 y1 N3
      go_wp2
      obtain ⟨hf, hfB, y0, y1⟩ := HFin.out
      rw [hf]
      exact bodyPost_ret (v := .agg #[.int .i64 (0), .int .i64 (1)]) (by simp [results, Tryz.results25, go_sem, y0, y1]) rfl ⟨by simp [partT], hfB⟩
  by_cases k3 : k = 3
  · subst k3
    cases chg
    · have N0 := M0.out
      have c0 : u.cell? ⟨w.heap.size, 0, none⟩ = some (.int .u8 3) := cell_of_row _ _ 0 _ _ _ N0
      have c1 : u.cell? ⟨w.heap.size, 1, none⟩ = some (.int .i64 j1) := cell_of_row _ _ 1 _ _ _ N0
      have c2 : u.cell? ⟨w.heap.size, 2, none⟩ = some (.int .i64 j2) := cell_of_row _ _ 2 _ _ _ N0
      have c3 : u.cell? ⟨w.heap.size, 3, none⟩ = some (.int .i64 j3) := cell_of_row _ _ 3 _ _ _ N0
      have c4 : u.cell? ⟨w.heap.size, 4, none⟩ = some (.int .i64 j4) := cell_of_row _ _ 4 _ _ _ N0
      clear N0
      go_enter Tryz.func25, Tryz.ntmps25
      go_upto_region 1 with fail
      rw [HU.out]
      have N3 := M1.out
      have z0 : u.cell? ⟨w.heap.size + 1, 0, none⟩ = some (.int .i64 0) := cell_of_row _ _ 0 _ _ _ N3
      have zf0 : u.frozen? ⟨w.heap.size + 1, 0, none⟩ = false := frozen_of_row _ _ 0 _ _ N3
      have z1 : u.cell? ⟨w.heap.size + 1, 1, none⟩ = some (.int .i64 0) := cell_of_row _ _ 1 _ _ _ N3
      have zf1 : u.frozen? ⟨w.heap.size + 1, 1, none⟩ = false := frozen_of_row _ _ 1 _ _ N3
      obtain ⟨f, hf⟩ : ∃ z, (u.setCell ⟨w.heap.size + 1, 0, none⟩ (.int .i64 (0))).setCell ⟨w.heap.size + 1, 1, none⟩ (.int .i64 (0)) = z := ⟨_, rfl⟩
      have hfB : Below w.heap.size w f := by rw [← hf]; exact ((hbu.out).setCell (p := ⟨w.heap.size + 1, 0, none⟩) (by show w.heap.size ≤ w.heap.size + 1; omega) _).setCell (p := ⟨w.heap.size + 1, 1, none⟩) (by show w.heap.size ≤ w.heap.size + 1; omega) _
      have hf2 := heap_setCell_same _ (w.heap.size + 1) 1 _ _ (.int .i64 (0)) (heap_setCell_same u (w.heap.size + 1) 0 _ _ (.int .i64 (0)) N3)
      rw [hf] at hf2
      have y0 : f.cell? ⟨w.heap.size + 1, 0, none⟩ = some (.int .i64 (0)) := cell_of_row _ _ 0 _ _ _ hf2
      have y1 : f.cell? ⟨w.heap.size + 1, 1, none⟩ = some (.int .i64 (0)) := cell_of_row _ _ 1 _ _ _ hf2
      have HFin := hide (And.intro hf (And.intro hfB (And.intro y0 y1)))
      clear hf hfB hf2 y0 y1 N3
      go_wp2
      obtain ⟨hf, hfB, y0, y1⟩ := HFin.out
      rw [hf]
      exact bodyPost_ret (v := .agg #[.int .i64 (0), .int .i64 (0)]) (by simp [results, Tryz.results25, go_sem, y0, y1]) rfl ⟨by simp [partT], hfB⟩
    · have N0 := M0.out
      have c0 : u.cell? ⟨w.heap.size, 0, none⟩ = some (.int .u8 3) := cell_of_row _ _ 0 _ _ _ N0
      have c1 : u.cell? ⟨w.heap.size, 1, none⟩ = some (.int .i64 j1) := cell_of_row _ _ 1 _ _ _ N0
      have c2 : u.cell? ⟨w.heap.size, 2, none⟩ = some (.int .i64 j2) := cell_of_row _ _ 2 _ _ _ N0
      have c3 : u.cell? ⟨w.heap.size, 3, none⟩ = some (.int .i64 j3) := cell_of_row _ _ 3 _ _ _ N0
      have c4 : u.cell? ⟨w.heap.size, 4, none⟩ = some (.int .i64 j4) := cell_of_row _ _ 4 _ _ _ N0
      clear N0
      go_enter Tryz.func25, Tryz.ntmps25
      go_upto_region 1 with fail
      rw [HU.out]
      have N3 := M1.out
      have z0 : u.cell? ⟨w.heap.size + 1, 0, none⟩ = some (.int .i64 0) := cell_of_row _ _ 0 _ _ _ N3
      have zf0 : u.frozen? ⟨w.heap.size + 1, 0, none⟩ = false := frozen_of_row _ _ 0 _ _ N3
      have z1 : u.cell? ⟨w.heap.size + 1, 1, none⟩ = some (.int .i64 0) := cell_of_row _ _ 1 _ _ _ N3
      have zf1 : u.frozen? ⟨w.heap.size + 1, 1, none⟩ = false := frozen_of_row _ _ 1 _ _ N3
      obtain ⟨f, hf⟩ : ∃ z, (u.setCell ⟨w.heap.size + 1, 0, none⟩ (.int .i64 (0))).setCell ⟨w.heap.size + 1, 1, none⟩ (.int .i64 (1)) = z := ⟨_, rfl⟩
      have hfB : Below w.heap.size w f := by rw [← hf]; exact ((hbu.out).setCell (p := ⟨w.heap.size + 1, 0, none⟩) (by show w.heap.size ≤ w.heap.size + 1; omega) _).setCell (p := ⟨w.heap.size + 1, 1, none⟩) (by show w.heap.size ≤ w.heap.size + 1; omega) _
      have hf2 := heap_setCell_same _ (w.heap.size + 1) 1 _ _ (.int .i64 (1)) (heap_setCell_same u (w.heap.size + 1) 0 _ _ (.int .i64 (0)) N3)
      rw [hf] at hf2
      have y0 : f.cell? ⟨w.heap.size + 1, 0, none⟩ = some (.int .i64 (0)) := cell_of_row _ _ 0 _ _ _ hf2
      have y1 : f.cell? ⟨w.heap.size + 1, 1, none⟩ = some (.int .i64 (1)) := cell_of_row _ _ 1 _ _ _ hf2
      have HFin := hide (And.intro hf (And.intro hfB (And.intro y0 y1)))
      clear hf hfB hf2 y0 y1 N3
      go_wp2
      obtain ⟨hf, hfB, y0, y1⟩ := HFin.out
      rw [hf]
      exact bodyPost_ret (v := .agg #[.int .i64 (0), .int .i64 (1)]) (by simp [results, Tryz.results25, go_sem, y0, y1]) rfl ⟨by simp [partT], hfB⟩
  have N0 := M0.out
  have c0 : u.cell? ⟨w.heap.size, 0, none⟩ = some (.int .u8 k) := cell_of_row _ _ 0 _ _ _ N0
  have c1 : u.cell? ⟨w.heap.size, 1, none⟩ = some (.int .i64 j1) := cell_of_row _ _ 1 _ _ _ N0
  have c2 : u.cell? ⟨w.heap.size, 2, none⟩ = some (.int .i64 j2) := cell_of_row _ _ 2 _ _ _ N0
  have c3 : u.cell? ⟨w.heap.size, 3, none⟩ = some (.int .i64 j3) := cell_of_row _ _ 3 _ _ _ N0
  have c4 : u.cell? ⟨w.heap.size, 4, none⟩ = some (.int .i64 j4) := cell_of_row _ _ 4 _ _ _ N0
  clear N0
  go_enter Tryz.func25, Tryz.ntmps25
  go_upto_region 1 with fail
  rw [HU.out]
  have N3 := M1.out
  have z0 : u.cell? ⟨w.heap.size + 1, 0, none⟩ = some (.int .i64 0) := cell_of_row _ _ 0 _ _ _ N3
  have zf0 : u.frozen? ⟨w.heap.size + 1, 0, none⟩ = false := frozen_of_row _ _ 0 _ _ N3
  have z1 : u.cell? ⟨w.heap.size + 1, 1, none⟩ = some (.int .i64 0) := cell_of_row _ _ 1 _ _ _ N3
  have zf1 : u.frozen? ⟨w.heap.size + 1, 1, none⟩ = false := frozen_of_row _ _ 1 _ _ N3
  obtain ⟨f, hf⟩ : ∃ z, (u.setCell ⟨w.heap.size + 1, 0, none⟩ (.int .i64 (0))).setCell ⟨w.heap.size + 1, 1, none⟩ (.int .i64 (0)) = z := ⟨_, rfl⟩
  have hfB : Below w.heap.size w f := by rw [← hf]; exact ((hbu.out).setCell (p := ⟨w.heap.size + 1, 0, none⟩) (by show w.heap.size ≤ w.heap.size + 1; omega) _).setCell (p := ⟨w.heap.size + 1, 1, none⟩) (by show w.heap.size ≤ w.heap.size + 1; omega) _
  have hf2 := heap_setCell_same _ (w.heap.size + 1) 1 _ _ (.int .i64 (0)) (heap_setCell_same u (w.heap.size + 1) 0 _ _ (.int .i64 (0)) N3)
  rw [hf] at hf2
  have y0 : f.cell? ⟨w.heap.size + 1, 0, none⟩ = some (.int .i64 (0)) := cell_of_row _ _ 0 _ _ _ hf2
  have y1 : f.cell? ⟨w.heap.size + 1, 1, none⟩ = some (.int .i64 (0)) := cell_of_row _ _ 1 _ _ _ hf2
  have HFin := hide (And.intro hf (And.intro hfB (And.intro y0 y1)))
  clear hf hfB hf2 y0 y1 N3
  go_wp2
  obtain ⟨hf, hfB, y0, y1⟩ := HFin.out
  rw [hf]
  exact bodyPost_ret (v := .agg #[.int .i64 (0), .int .i64 (0)]) (by simp [results, Tryz.results25, go_sem, y0, y1]) rfl ⟨by simp [partT, k1, k2, k3], hfB⟩
end Go.Proofs.YtihlhkbdgbkafaaGreat
namespace Go.Proofs.YtihlhkbdgbkafaaGreat
open Go.RowKit
set_option linter.unusedVariables false
set_option linter.unusedSimpArgs false
set_option maxRecDepth 100000 in
set_option maxHeartbeats 4000000 in
theorem plain_any (w : World) (a b : Int) : Calls Tryz.prog 23 #[.agg #[.int .i64 a, .int .i64 b]] w fun e w' => e = .returned (.agg #[.int .i64 a, .int .i64 b]) ∧ Below w.heap.size w w' := by
  go_enter Tryz.func23, Tryz.ntmps23
  go_wp2
  refine bodyPost_ret (v := .agg #[.int .i64 a, .int .i64 b]) (by simp [results, Tryz.results23, go_sem]) rfl ⟨rfl, ?_⟩
  exact ((Below.refl w.heap.size w).alloc (Nat.le_refl _) _).alloc (by simp) _
end Go.Proofs.YtihlhkbdgbkafaaGreat

/- A worker's part of a state: the document. (printed by gen/rtk.py) -/
import Derived.Test.YtgfdlllmcbgbcaaRwh
import Derived.Test.YtgfdlllmcbgbcaaMof
import Derived.Test.YtgfdlllmcbgbcaaOap
namespace Go.Proofs.Ytgfdlllmcbgbcaa
open Go.RowKit
set_option linter.unusedVariables false
set_option linter.unusedSimpArgs false
set_option maxRecDepth 100000 in
set_option maxHeartbeats 32000000 in
theorem rtake14_any (w : World) (st sm mo : Int) (A1 A2 A3 : Option Addr) (V n2 n3 c1 c2 c3 : Nat) (vals : List Int) (chg : List Bool) (inb : List Ml) (n k : Int) (hV : V ≤ 512) (hv : vals.length = V) (hc : chg.length = n2) (hi : inb.length = n3)
    (r1 : Rd w w.heap.size A1 (i64s vals)) (r2 : Rd w w.heap.size A2 (bools chg)) (r3 : Rd w w.heap.size A3 (mlFlat inb)) :
    Calls Try.prog 22 #[.agg #[.int .i64 st, .slice A1 V c1, .slice A2 n2 c2, .slice A3 n3 c3, .int .i64 sm, .int .i64 mo], .int .i64 n, .int .i64 k] w (GetPost w (takeP st vals chg inb n k) (takeE st vals chg inb n k)) := by
  obtain ⟨a0, a0i, a0z, a0s, a0b⟩ := info_parts (show (Try.prog.info? 3).map (fun i => (i.zero, i.size, i.bytes)) = some (some (.int .i64 0), 1, 8) by kernel_rfl)
  obtain ⟨a1, a1i, a1z, a1s, a1b⟩ := info_parts (show (Try.prog.info? 2).map (fun i => (i.zero, i.size, i.bytes)) = some (some (.int .i64 0), 1, 8) by kernel_rfl)
  obtain ⟨a2, a2i, a2z, a2s, a2b⟩ := info_parts (show (Try.prog.info? 4).map (fun i => (i.zero, i.size, i.bytes)) = some (some (.bool false), 1, 1) by kernel_rfl)
  obtain ⟨a3, a3i, a3z, a3s, a3b⟩ := info_parts (show (Try.prog.info? 61).map (fun i => (i.zero, i.size, i.bytes)) = some (some (.agg #[.bool false, .int .i64 0]), 2, 16) by kernel_rfl)
  obtain ⟨u, hu⟩ : ∃ u, (w.alloc (.cells #[.int .i64 st, .slice A1 V c1, .slice A2 n2 c2, .slice A3 n3 c3, .int .i64 sm, .int .i64 mo] 48)).alloc (.cells #[.int .i64 0, .slice none 0 0, .slice none 0 0, .slice none 0 0, .slice none 0 0] 35) = u := ⟨_, rfl⟩
  have hzu : w.heap.size + 1 < u.heap.size := by rw [← hu]; simp
  have HBU := hide (show Below w.heap.size w u by rw [← hu]; exact ((Below.refl _ _).alloc (Nat.le_refl _) _).alloc (by simp) _)
  have M1 := hide (show u.heap[w.heap.size + 1]? = some (.cells #[.int .i64 0, .slice none 0 0, .slice none 0 0, .slice none 0 0, .slice none 0 0] 35) by rw [← hu]; have h := heap_alloc_last (w.alloc (.cells #[.int .i64 st, .slice A1 V c1, .slice A2 n2 c2, .slice A3 n3 c3, .int .i64 sm, .int .i64 mo] 48)) (.cells #[.int .i64 0, .slice none 0 0, .slice none 0 0, .slice none 0 0, .slice none 0 0] 35); simpa using h)
  have M0 := hide (show u.heap[w.heap.size]? = some (.cells #[.int .i64 st, .slice A1 V c1, .slice A2 n2 c2, .slice A3 n3 c3, .int .i64 sm, .int .i64 mo] 48) by rw [← hu]; exact heap_alloc_keep (heap_alloc_last _ _))
  have HU := hide hu
  have HV := hide hv
  have HC := hide hc
  have HI := hide hi
  have R1 := hide r1
  have R2 := hide r2
  have R3 := hide r3
  clear hu hv hc hi r1 r2 r3
  by_cases b1 : n < 1
  · have HN : Hid (takeE st vals chg inb n k = 2) := hide (by unfold takeE; rw [if_pos (by omega)])
    have ZW := M1
    have HBf := HBU
    go_enter Try.func22, Try.ntmps22
    go_upto_region 1 with fail
    rw [HU.out]
    have z0 : u.cell? ⟨w.heap.size + 1, 0, none⟩ = some (.int .i64 0) := cell_of_row _ _ 0 _ _ _ ZW.out
    have zf0 : u.frozen? ⟨w.heap.size + 1, 0, none⟩ = false := frozen_of_row _ _ 0 _ _ ZW.out
    have z1 : u.cell? ⟨w.heap.size + 1, 1, none⟩ = some (.slice none 0 0) := cell_of_row _ _ 1 _ _ _ ZW.out
    have zf1 : u.frozen? ⟨w.heap.size + 1, 1, none⟩ = false := frozen_of_row _ _ 1 _ _ ZW.out
    have z2 : u.cell? ⟨w.heap.size + 1, 2, none⟩ = some (.slice none 0 0) := cell_of_row _ _ 2 _ _ _ ZW.out
    have zf2 : u.frozen? ⟨w.heap.size + 1, 2, none⟩ = false := frozen_of_row _ _ 2 _ _ ZW.out
    have z3 : u.cell? ⟨w.heap.size + 1, 3, none⟩ = some (.slice none 0 0) := cell_of_row _ _ 3 _ _ _ ZW.out
    have zf3 : u.frozen? ⟨w.heap.size + 1, 3, none⟩ = false := frozen_of_row _ _ 3 _ _ ZW.out
    have z4 : u.cell? ⟨w.heap.size + 1, 4, none⟩ = some (.slice none 0 0) := cell_of_row _ _ 4 _ _ _ ZW.out
    have zf4 : u.frozen? ⟨w.heap.size + 1, 4, none⟩ = false := frozen_of_row _ _ 4 _ _ ZW.out
    have HFin := hide (five_fin (.int .i64 0) (.slice none 0 0) (.slice none 0 0) (.slice none 0 0) (.slice none 0 0) (show w.heap.size ≤ w.heap.size + 1 by omega) ZW.out HBf.out)
    go_wp2
    obtain ⟨f, hf, hfB, h6⟩ := HFin.out
    rw [hf]
    have y0 : f.cell? ⟨w.heap.size + 1, 0, none⟩ = some (.int .i64 0) := cell_of_row _ _ 0 _ _ _ h6
    have y1 : f.cell? ⟨w.heap.size + 1, 1, none⟩ = some (.slice none 0 0) := cell_of_row _ _ 1 _ _ _ h6
    have y2 : f.cell? ⟨w.heap.size + 1, 2, none⟩ = some (.slice none 0 0) := cell_of_row _ _ 2 _ _ _ h6
    have y3 : f.cell? ⟨w.heap.size + 1, 3, none⟩ = some (.slice none 0 0) := cell_of_row _ _ 3 _ _ _ h6
    have y4 : f.cell? ⟨w.heap.size + 1, 4, none⟩ = some (.slice none 0 0) := cell_of_row _ _ 4 _ _ _ h6
    exact bodyPost_ret (v := .tuple #[.agg #[.int .i64 0, .slice none 0 0, .slice none 0 0, .slice none 0 0, .slice none 0 0], .int .i64 2]) (by simp [results, Try.results22, go_sem, y0, y1, y2, y3, y4]) rfl (take_bad HN.out (by decide) hfB)
  by_cases b2 : 64 < n
  · have HN : Hid (takeE st vals chg inb n k = 2) := hide (by unfold takeE; rw [if_pos (by omega)])
    have ZW := M1
    have HBf := HBU
    go_enter Try.func22, Try.ntmps22
    go_upto_region 1 with fail
    rw [HU.out]
    have z0 : u.cell? ⟨w.heap.size + 1, 0, none⟩ = some (.int .i64 0) := cell_of_row _ _ 0 _ _ _ ZW.out
    have zf0 : u.frozen? ⟨w.heap.size + 1, 0, none⟩ = false := frozen_of_row _ _ 0 _ _ ZW.out
    have z1 : u.cell? ⟨w.heap.size + 1, 1, none⟩ = some (.slice none 0 0) := cell_of_row _ _ 1 _ _ _ ZW.out
    have zf1 : u.frozen? ⟨w.heap.size + 1, 1, none⟩ = false := frozen_of_row _ _ 1 _ _ ZW.out
    have z2 : u.cell? ⟨w.heap.size + 1, 2, none⟩ = some (.slice none 0 0) := cell_of_row _ _ 2 _ _ _ ZW.out
    have zf2 : u.frozen? ⟨w.heap.size + 1, 2, none⟩ = false := frozen_of_row _ _ 2 _ _ ZW.out
    have z3 : u.cell? ⟨w.heap.size + 1, 3, none⟩ = some (.slice none 0 0) := cell_of_row _ _ 3 _ _ _ ZW.out
    have zf3 : u.frozen? ⟨w.heap.size + 1, 3, none⟩ = false := frozen_of_row _ _ 3 _ _ ZW.out
    have z4 : u.cell? ⟨w.heap.size + 1, 4, none⟩ = some (.slice none 0 0) := cell_of_row _ _ 4 _ _ _ ZW.out
    have zf4 : u.frozen? ⟨w.heap.size + 1, 4, none⟩ = false := frozen_of_row _ _ 4 _ _ ZW.out
    have HFin := hide (five_fin (.int .i64 0) (.slice none 0 0) (.slice none 0 0) (.slice none 0 0) (.slice none 0 0) (show w.heap.size ≤ w.heap.size + 1 by omega) ZW.out HBf.out)
    go_wp2
    obtain ⟨f, hf, hfB, h6⟩ := HFin.out
    rw [hf]
    have y0 : f.cell? ⟨w.heap.size + 1, 0, none⟩ = some (.int .i64 0) := cell_of_row _ _ 0 _ _ _ h6
    have y1 : f.cell? ⟨w.heap.size + 1, 1, none⟩ = some (.slice none 0 0) := cell_of_row _ _ 1 _ _ _ h6
    have y2 : f.cell? ⟨w.heap.size + 1, 2, none⟩ = some (.slice none 0 0) := cell_of_row _ _ 2 _ _ _ h6
    have y3 : f.cell? ⟨w.heap.size + 1, 3, none⟩ = some (.slice none 0 0) := cell_of_row _ _ 3 _ _ _ h6
    have y4 : f.cell? ⟨w.heap.size + 1, 4, none⟩ = some (.slice none 0 0) := cell_of_row _ _ 4 _ _ _ h6
    exact bodyPost_ret (v := .tuple #[.agg #[.int .i64 0, .slice none 0 0, .slice none 0 0, .slice none 0 0, .slice none 0 0], .int .i64 2]) (by simp [results, Try.results22, go_sem, y0, y1, y2, y3, y4]) rfl (take_bad HN.out (by decide) hfB)
  by_cases b3 : k < 0
  · have HN : Hid (takeE st vals chg inb n k = 2) := hide (by unfold takeE; rw [if_pos (by omega)])
    have ZW := M1
    have HBf := HBU
    go_enter Try.func22, Try.ntmps22
    go_upto_region 1 with fail
    rw [HU.out]
    have z0 : u.cell? ⟨w.heap.size + 1, 0, none⟩ = some (.int .i64 0) := cell_of_row _ _ 0 _ _ _ ZW.out
    have zf0 : u.frozen? ⟨w.heap.size + 1, 0, none⟩ = false := frozen_of_row _ _ 0 _ _ ZW.out
    have z1 : u.cell? ⟨w.heap.size + 1, 1, none⟩ = some (.slice none 0 0) := cell_of_row _ _ 1 _ _ _ ZW.out
    have zf1 : u.frozen? ⟨w.heap.size + 1, 1, none⟩ = false := frozen_of_row _ _ 1 _ _ ZW.out
    have z2 : u.cell? ⟨w.heap.size + 1, 2, none⟩ = some (.slice none 0 0) := cell_of_row _ _ 2 _ _ _ ZW.out
    have zf2 : u.frozen? ⟨w.heap.size + 1, 2, none⟩ = false := frozen_of_row _ _ 2 _ _ ZW.out
    have z3 : u.cell? ⟨w.heap.size + 1, 3, none⟩ = some (.slice none 0 0) := cell_of_row _ _ 3 _ _ _ ZW.out
    have zf3 : u.frozen? ⟨w.heap.size + 1, 3, none⟩ = false := frozen_of_row _ _ 3 _ _ ZW.out
    have z4 : u.cell? ⟨w.heap.size + 1, 4, none⟩ = some (.slice none 0 0) := cell_of_row _ _ 4 _ _ _ ZW.out
    have zf4 : u.frozen? ⟨w.heap.size + 1, 4, none⟩ = false := frozen_of_row _ _ 4 _ _ ZW.out
    have HFin := hide (five_fin (.int .i64 0) (.slice none 0 0) (.slice none 0 0) (.slice none 0 0) (.slice none 0 0) (show w.heap.size ≤ w.heap.size + 1 by omega) ZW.out HBf.out)
    go_wp2
    obtain ⟨f, hf, hfB, h6⟩ := HFin.out
    rw [hf]
    have y0 : f.cell? ⟨w.heap.size + 1, 0, none⟩ = some (.int .i64 0) := cell_of_row _ _ 0 _ _ _ h6
    have y1 : f.cell? ⟨w.heap.size + 1, 1, none⟩ = some (.slice none 0 0) := cell_of_row _ _ 1 _ _ _ h6
    have y2 : f.cell? ⟨w.heap.size + 1, 2, none⟩ = some (.slice none 0 0) := cell_of_row _ _ 2 _ _ _ h6
    have y3 : f.cell? ⟨w.heap.size + 1, 3, none⟩ = some (.slice none 0 0) := cell_of_row _ _ 3 _ _ _ h6
    have y4 : f.cell? ⟨w.heap.size + 1, 4, none⟩ = some (.slice none 0 0) := cell_of_row _ _ 4 _ _ _ h6
    exact bodyPost_ret (v := .tuple #[.agg #[.int .i64 0, .slice none 0 0, .slice none 0 0, .slice none 0 0, .slice none 0 0], .int .i64 2]) (by simp [results, Try.results22, go_sem, y0, y1, y2, y3, y4]) rfl (take_bad HN.out (by decide) hfB)
  by_cases b4 : n ≤ k
  · have HN : Hid (takeE st vals chg inb n k = 2) := hide (by unfold takeE; rw [if_pos (by omega)])
    have ZW := M1
    have HBf := HBU
    go_enter Try.func22, Try.ntmps22
    go_upto_region 1 with fail
    rw [HU.out]
    have z0 : u.cell? ⟨w.heap.size + 1, 0, none⟩ = some (.int .i64 0) := cell_of_row _ _ 0 _ _ _ ZW.out
    have zf0 : u.frozen? ⟨w.heap.size + 1, 0, none⟩ = false := frozen_of_row _ _ 0 _ _ ZW.out
    have z1 : u.cell? ⟨w.heap.size + 1, 1, none⟩ = some (.slice none 0 0) := cell_of_row _ _ 1 _ _ _ ZW.out
    have zf1 : u.frozen? ⟨w.heap.size + 1, 1, none⟩ = false := frozen_of_row _ _ 1 _ _ ZW.out
    have z2 : u.cell? ⟨w.heap.size + 1, 2, none⟩ = some (.slice none 0 0) := cell_of_row _ _ 2 _ _ _ ZW.out
    have zf2 : u.frozen? ⟨w.heap.size + 1, 2, none⟩ = false := frozen_of_row _ _ 2 _ _ ZW.out
    have z3 : u.cell? ⟨w.heap.size + 1, 3, none⟩ = some (.slice none 0 0) := cell_of_row _ _ 3 _ _ _ ZW.out
    have zf3 : u.frozen? ⟨w.heap.size + 1, 3, none⟩ = false := frozen_of_row _ _ 3 _ _ ZW.out
    have z4 : u.cell? ⟨w.heap.size + 1, 4, none⟩ = some (.slice none 0 0) := cell_of_row _ _ 4 _ _ _ ZW.out
    have zf4 : u.frozen? ⟨w.heap.size + 1, 4, none⟩ = false := frozen_of_row _ _ 4 _ _ ZW.out
    have HFin := hide (five_fin (.int .i64 0) (.slice none 0 0) (.slice none 0 0) (.slice none 0 0) (.slice none 0 0) (show w.heap.size ≤ w.heap.size + 1 by omega) ZW.out HBf.out)
    go_wp2
    obtain ⟨f, hf, hfB, h6⟩ := HFin.out
    rw [hf]
    have y0 : f.cell? ⟨w.heap.size + 1, 0, none⟩ = some (.int .i64 0) := cell_of_row _ _ 0 _ _ _ h6
    have y1 : f.cell? ⟨w.heap.size + 1, 1, none⟩ = some (.slice none 0 0) := cell_of_row _ _ 1 _ _ _ h6
    have y2 : f.cell? ⟨w.heap.size + 1, 2, none⟩ = some (.slice none 0 0) := cell_of_row _ _ 2 _ _ _ h6
    have y3 : f.cell? ⟨w.heap.size + 1, 3, none⟩ = some (.slice none 0 0) := cell_of_row _ _ 3 _ _ _ h6
    have y4 : f.cell? ⟨w.heap.size + 1, 4, none⟩ = some (.slice none 0 0) := cell_of_row _ _ 4 _ _ _ h6
    exact bodyPost_ret (v := .tuple #[.agg #[.int .i64 0, .slice none 0 0, .slice none 0 0, .slice none 0 0, .slice none 0 0], .int .i64 2]) (by simp [results, Try.results22, go_sem, y0, y1, y2, y3, y4]) rfl (take_bad HN.out (by decide) hfB)
  by_cases hV0 : V = 0
  · subst hV0
    have HN : Hid (takeE st vals chg inb n k = 4) := hide (by unfold takeE; rw [if_neg (by omega), if_pos (.inl HV.out)])
    have ZW := M1
    have HBf := HBU
    have N0 := M0.out
    have x0 : u.cell? ⟨w.heap.size, 0, none⟩ = some (.int .i64 st) := cell_of_row _ _ 0 _ _ _ N0
    have x1 : u.cell? ⟨w.heap.size, 1, none⟩ = some (.slice A1 0 c1) := cell_of_row _ _ 1 _ _ _ N0
    have x2 : u.cell? ⟨w.heap.size, 2, none⟩ = some (.slice A2 n2 c2) := cell_of_row _ _ 2 _ _ _ N0
    have x3 : u.cell? ⟨w.heap.size, 3, none⟩ = some (.slice A3 n3 c3) := cell_of_row _ _ 3 _ _ _ N0
    have x4 : u.cell? ⟨w.heap.size, 4, none⟩ = some (.int .i64 sm) := cell_of_row _ _ 4 _ _ _ N0
    have x5 : u.cell? ⟨w.heap.size, 5, none⟩ = some (.int .i64 mo) := cell_of_row _ _ 5 _ _ _ N0
    clear N0
    go_enter Try.func22, Try.ntmps22
    go_upto_region 1 with fail
    rw [HU.out]
    have z0 : u.cell? ⟨w.heap.size + 1, 0, none⟩ = some (.int .i64 0) := cell_of_row _ _ 0 _ _ _ ZW.out
    have zf0 : u.frozen? ⟨w.heap.size + 1, 0, none⟩ = false := frozen_of_row _ _ 0 _ _ ZW.out
    have z1 : u.cell? ⟨w.heap.size + 1, 1, none⟩ = some (.slice none 0 0) := cell_of_row _ _ 1 _ _ _ ZW.out
    have zf1 : u.frozen? ⟨w.heap.size + 1, 1, none⟩ = false := frozen_of_row _ _ 1 _ _ ZW.out
    have z2 : u.cell? ⟨w.heap.size + 1, 2, none⟩ = some (.slice none 0 0) := cell_of_row _ _ 2 _ _ _ ZW.out
    have zf2 : u.frozen? ⟨w.heap.size + 1, 2, none⟩ = false := frozen_of_row _ _ 2 _ _ ZW.out
    have z3 : u.cell? ⟨w.heap.size + 1, 3, none⟩ = some (.slice none 0 0) := cell_of_row _ _ 3 _ _ _ ZW.out
    have zf3 : u.frozen? ⟨w.heap.size + 1, 3, none⟩ = false := frozen_of_row _ _ 3 _ _ ZW.out
    have z4 : u.cell? ⟨w.heap.size + 1, 4, none⟩ = some (.slice none 0 0) := cell_of_row _ _ 4 _ _ _ ZW.out
    have zf4 : u.frozen? ⟨w.heap.size + 1, 4, none⟩ = false := frozen_of_row _ _ 4 _ _ ZW.out
    have HFin := hide (five_fin (.int .i64 0) (.slice none 0 0) (.slice none 0 0) (.slice none 0 0) (.slice none 0 0) (show w.heap.size ≤ w.heap.size + 1 by omega) ZW.out HBf.out)
    go_wp2
    obtain ⟨f, hf, hfB, h6⟩ := HFin.out
    rw [hf]
    have y0 : f.cell? ⟨w.heap.size + 1, 0, none⟩ = some (.int .i64 0) := cell_of_row _ _ 0 _ _ _ h6
    have y1 : f.cell? ⟨w.heap.size + 1, 1, none⟩ = some (.slice none 0 0) := cell_of_row _ _ 1 _ _ _ h6
    have y2 : f.cell? ⟨w.heap.size + 1, 2, none⟩ = some (.slice none 0 0) := cell_of_row _ _ 2 _ _ _ h6
    have y3 : f.cell? ⟨w.heap.size + 1, 3, none⟩ = some (.slice none 0 0) := cell_of_row _ _ 3 _ _ _ h6
    have y4 : f.cell? ⟨w.heap.size + 1, 4, none⟩ = some (.slice none 0 0) := cell_of_row _ _ 4 _ _ _ h6
    exact bodyPost_ret (v := .tuple #[.agg #[.int .i64 0, .slice none 0 0, .slice none 0 0, .slice none 0 0, .slice none 0 0], .int .i64 4]) (by simp [results, Try.results22, go_sem, y0, y1, y2, y3, y4]) rfl (take_bad HN.out (by decide) hfB)
  have hV1 : ¬ V = 0 := hV0
  have hV3 : ((V : Int) == 0) = false := by simp; omega
  have N0 := M0.out
  have x0 : u.cell? ⟨w.heap.size, 0, none⟩ = some (.int .i64 st) := cell_of_row _ _ 0 _ _ _ N0
  have x1 : u.cell? ⟨w.heap.size, 1, none⟩ = some (.slice A1 V c1) := cell_of_row _ _ 1 _ _ _ N0
  have x2 : u.cell? ⟨w.heap.size, 2, none⟩ = some (.slice A2 n2 c2) := cell_of_row _ _ 2 _ _ _ N0
  have x3 : u.cell? ⟨w.heap.size, 3, none⟩ = some (.slice A3 n3 c3) := cell_of_row _ _ 3 _ _ _ N0
  have x4 : u.cell? ⟨w.heap.size, 4, none⟩ = some (.int .i64 sm) := cell_of_row _ _ 4 _ _ _ N0
  have x5 : u.cell? ⟨w.heap.size, 5, none⟩ = some (.int .i64 mo) := cell_of_row _ _ 5 _ _ _ N0
  clear N0
  go_enter Try.func22, Try.ntmps22
  go_upto_region 1 with fail
  rw [HU.out]
  go_wp2_with fail
  refine (rwhole_any u st sm mo A1 A2 A3 V n2 n3 c1 c2 c3 hV).mono ?_
  rintro e w1 ⟨A, c, rfl, hr, hb⟩
  have B1 := hide hb
  have s1 : u.heap.size ≤ w1.heap.size := hb.size
  have HSL : Hid (SLen (wholeP st vals chg inb) V V n2 n3) := hide ⟨by unfold wholeP; rw [upto_len]; exact HV.out, HV.out, HC.out, HI.out⟩
  have HSI : Hid (SIn w1 (wholeP st vals chg inb) A A1 A2 A3) := hide ⟨by unfold wholeP; rw [HV.out]; exact hr, (R1.out.next HBU.out).next hb, (R2.out.next HBU.out).next hb, (R3.out.next HBU.out).next hb⟩
  clear hr hb x0 x1 x2 x3 x4 x5
  have hcl := rright_any w1 (wholeP st vals chg inb) A A1 A2 A3 V V n2 n3 c c1 c2 c3 HSL.out (by omega) HSI.out
  rcases hrb : rightB (wholeP st vals chg inb) with _ | _
  · rw [hrb, show (wholeP st vals chg inb).step = st from rfl] at hcl
    have HRB := hide hrb
    have HCL := hide hcl
    clear hrb hcl
    go_wp2_with fail
    refine HCL.out.mono ?_
    rintro e w2 ⟨rfl, hb⟩
    have B2 := hide (B1.out.trans (hb.mono s1))
    have s2 : u.heap.size ≤ w2.heap.size := Nat.le_trans s1 hb.size
    clear hb HCL
    have HN : Hid (takeE st vals chg inb n k = 4) := hide (by unfold takeE; rw [if_neg (by omega), if_pos (.inr HRB.out)])
    have ZW := hide ((B2.out.block _ (by omega)).trans M1.out)
    have HBf := hide (HBU.out.trans (B2.out.mono (by omega)))
    have z0 : w2.cell? ⟨w.heap.size + 1, 0, none⟩ = some (.int .i64 0) := cell_of_row _ _ 0 _ _ _ ZW.out
    have zf0 : w2.frozen? ⟨w.heap.size + 1, 0, none⟩ = false := frozen_of_row _ _ 0 _ _ ZW.out
    have z1 : w2.cell? ⟨w.heap.size + 1, 1, none⟩ = some (.slice none 0 0) := cell_of_row _ _ 1 _ _ _ ZW.out
    have zf1 : w2.frozen? ⟨w.heap.size + 1, 1, none⟩ = false := frozen_of_row _ _ 1 _ _ ZW.out
    have z2 : w2.cell? ⟨w.heap.size + 1, 2, none⟩ = some (.slice none 0 0) := cell_of_row _ _ 2 _ _ _ ZW.out
    have zf2 : w2.frozen? ⟨w.heap.size + 1, 2, none⟩ = false := frozen_of_row _ _ 2 _ _ ZW.out
    have z3 : w2.cell? ⟨w.heap.size + 1, 3, none⟩ = some (.slice none 0 0) := cell_of_row _ _ 3 _ _ _ ZW.out
    have zf3 : w2.frozen? ⟨w.heap.size + 1, 3, none⟩ = false := frozen_of_row _ _ 3 _ _ ZW.out
    have z4 : w2.cell? ⟨w.heap.size + 1, 4, none⟩ = some (.slice none 0 0) := cell_of_row _ _ 4 _ _ _ ZW.out
    have zf4 : w2.frozen? ⟨w.heap.size + 1, 4, none⟩ = false := frozen_of_row _ _ 4 _ _ ZW.out
    have HFin := hide (five_fin (.int .i64 0) (.slice none 0 0) (.slice none 0 0) (.slice none 0 0) (.slice none 0 0) (show w.heap.size ≤ w.heap.size + 1 by omega) ZW.out HBf.out)
    go_wp2
    obtain ⟨f, hf, hfB, h6⟩ := HFin.out
    rw [hf]
    have y0 : f.cell? ⟨w.heap.size + 1, 0, none⟩ = some (.int .i64 0) := cell_of_row _ _ 0 _ _ _ h6
    have y1 : f.cell? ⟨w.heap.size + 1, 1, none⟩ = some (.slice none 0 0) := cell_of_row _ _ 1 _ _ _ h6
    have y2 : f.cell? ⟨w.heap.size + 1, 2, none⟩ = some (.slice none 0 0) := cell_of_row _ _ 2 _ _ _ h6
    have y3 : f.cell? ⟨w.heap.size + 1, 3, none⟩ = some (.slice none 0 0) := cell_of_row _ _ 3 _ _ _ h6
    have y4 : f.cell? ⟨w.heap.size + 1, 4, none⟩ = some (.slice none 0 0) := cell_of_row _ _ 4 _ _ _ h6
    exact bodyPost_ret (v := .tuple #[.agg #[.int .i64 0, .slice none 0 0, .slice none 0 0, .slice none 0 0, .slice none 0 0], .int .i64 4]) (by simp [results, Try.results22, go_sem, y0, y1, y2, y3, y4]) rfl (take_bad HN.out (by decide) hfB)
  · rw [hrb, show (wholeP st vals chg inb).step = st from rfl] at hcl
    have HRB := hide hrb
    have HCL := hide hcl
    clear hrb hcl
    go_wp2_with fail
    refine HCL.out.mono ?_
    rintro e w2 ⟨rfl, hb⟩
    have B2 := hide (B1.out.trans (hb.mono s1))
    have s2 : u.heap.size ≤ w2.heap.size := Nat.le_trans s1 hb.size
    clear hb HCL
    have HN : Hid (takeE st vals chg inb n k = 0) := hide (by unfold takeE; rw [if_neg (by omega), if_neg (by rw [HRB.out, HV.out]; simp; omega)])
    have hlens := right_whole_lens HRB.out
    obtain rfl : n2 = V := by have := HC.out; have := HV.out; omega
    obtain rfl : n3 = n2 := by have := HI.out; have := HV.out; omega
    clear hlens
    obtain ⟨V, rfl⟩ : ∃ V, V = n3 := ⟨_, rfl⟩
    have N0w := hide ((B2.out.block _ (by omega)).trans M0.out)
    have N0 := N0w.out
    have x0 : w2.cell? ⟨w.heap.size, 0, none⟩ = some (.int .i64 st) := cell_of_row _ _ 0 _ _ _ N0
    have x1 : w2.cell? ⟨w.heap.size, 1, none⟩ = some (.slice A1 V c1) := cell_of_row _ _ 1 _ _ _ N0
    have x2 : w2.cell? ⟨w.heap.size, 2, none⟩ = some (.slice A2 V c2) := cell_of_row _ _ 2 _ _ _ N0
    have x3 : w2.cell? ⟨w.heap.size, 3, none⟩ = some (.slice A3 V c3) := cell_of_row _ _ 3 _ _ _ N0
    have x4 : w2.cell? ⟨w.heap.size, 4, none⟩ = some (.int .i64 sm) := cell_of_row _ _ 4 _ _ _ N0
    have x5 : w2.cell? ⟨w.heap.size, 5, none⟩ = some (.int .i64 mo) := cell_of_row _ _ 5 _ _ _ N0
    clear N0
    go_upto_region 6 with fail
    obtain ⟨v0, hv0⟩ : ∃ z, w2.alloc (.cells #[.int .i64 st, .slice none 0 0, .slice none 0 0, .slice none 0 0, .slice none 0 0] 35) = z := ⟨_, rfl⟩
    rw [hv0]
    obtain ⟨bp, hbp⟩ : ∃ z, w2.heap.size = z := ⟨_, rfl⟩
    have hbv : bp < v0.heap.size := by rw [← hv0, ← hbp]; simp
    have HPv : Hid (v0.heap[bp]? = some (.cells #[.int .i64 st, .slice none 0 0, .slice none 0 0, .slice none 0 0, .slice none 0 0] 35)) := hide (by rw [← hv0, ← hbp]; exact heap_alloc_last _ _)
    have HBf2 : Below w.heap.size w w2 := HBU.out.trans (B2.out.mono (by omega))
    have HBv : Hid (Below w.heap.size w v0) := hide (by rw [← hv0]; exact HBf2.alloc HBf2.size _)
    have hk9 : ∀ b, b < w2.heap.size → v0.heap[b]? = w2.heap[b]? := fun b hb => by rw [← hv0]; exact Below.heap_alloc _ _ _ hb
    have HZ0 := hide ((hk9 _ (by omega)).trans ((B2.out.block _ (by omega)).trans M1.out))
    have HS0 := hide ((hk9 _ (by omega)).trans N0w.out)
    rw [hbp]
    have hub : u.heap.size ≤ bp := by omega
    clear hv0 hbp hk9 HBf2 x0 x1 x2 x3 x4 x5
    have G0 : Hid (GetSt [bp] v0 w bp 35 st [] [] [] [] none 0 none 0 none 0 none 0 0 0 0 0 v0) := hide ⟨HPv.out, World.ownsRow_nil _ _ _ _, World.ownsRow_nil _ _ _ _, World.ownsRow_nil _ _ _ _, World.ownsRow_nil _ _ _ _, KB.refl _ _, HBv.out⟩
    have hHv : w.heap.size + 1 < v0.heap.size := by omega
    have HHX : Hid (w.heap.size + 1 ∉ [bp]) := hide (by simp; omega)
    have HHY : Hid (w.heap.size ∉ [bp]) := hide (by simp; omega)
    have hwbp : w.heap.size ≤ bp := by omega
    have hwv : w.heap.size ≤ v0.heap.size := by omega
    clear HPv HBv s1 s2
    have HK0 := hide (show 0 ≤ k by omega)
    have hV60 := hV
    go_wp2
    go_loopw [9] (fun v9 wr => ∃ (i q : Nat) (Ao : Option Addr) (co : Nat) (Av : Option Addr) (cv : Nat) (Ac : Option Addr) (cc : Nat) (Ai : Option Addr) (ci : Nat), i ≤ V ∧ v9 = .int .i64 (i : Int) ∧ Hid ((ownUpto n k i).length = q) ∧ Hid (GetSt [bp] v0 w bp 35 st (ownUpto n k i) (pv vals (ownUpto n k i)) (pc chg (ownUpto n k i)) (pm inb (ownUpto n k i)) Ao co Av cv Ac cc Ai ci q q q q wr)) (fun v9 _ => V - (intOf v9).toNat)
    case atStart => exact ⟨0, 0, none, 0, none, 0, none, 0, none, 0, by omega, rfl, hide rfl, G0⟩
    case round =>
      clear G0
      obtain ⟨i, q, Ao, co, Av, cv, Ac, cc, Ai, ci, hi, rfl, HQ, GR⟩ := hrel
      have srw : v0.heap.size ≤ wr.heap.size := GR.out.kb.1
      have hqi : q ≤ i := by rw [← HQ.out]; exact own_len n k i
      by_cases hlt : i < V
      · have hI : (i : Int) < (V : Int) := by omega
        have x1 : wr.cell? ⟨w.heap.size, 1, none⟩ = some (.slice A1 V c1) := (GR.out.kb.cell (p := ⟨w.heap.size, 1, none⟩) (by show w.heap.size < _; omega) HHY.out).trans (cell_of_row _ _ 1 _ _ _ HS0.out)
        have lw : w.heap.size < wr.heap.size := by omega
        by_cases hsel : ofF (i : Int) n = k
        · have hsel' : ¬ ¬ (ofF (i : Int) n = k) := fun h => h hsel
          have HSN := hide (own_snoc_in HK0.out hsel)
          have HSel := hide hsel
          have HOF := hide (show ofF (i : Int) n = k from hsel)
          clear hsel hsel'
          obtain ⟨a, ha⟩ : ∃ a, vals[i]? = some a := ⟨_, List.getElem?_eq_getElem (by rw [HV.out]; exact hlt)⟩
          obtain ⟨b, hb⟩ : ∃ a, chg[i]? = some a := ⟨_, List.getElem?_eq_getElem (by rw [HC.out]; exact hlt)⟩
          obtain ⟨m, hm⟩ : ∃ a, inb[i]? = some a := ⟨_, List.getElem?_eq_getElem (by rw [HI.out]; exact hlt)⟩
          obtain ⟨e1, o1, rfl, l1, d1⟩ := R1.out.at1 (i64s_get ha)
          obtain ⟨e2, o2, rfl, l2, d2⟩ := R2.out.at1 (show (bools chg)[i]? = some (.bool b) by simp [bools, hb])
          obtain ⟨e3, o3, rfl, l3, d3, d4⟩ := R3.out.ml hm
          have HA := hide ha
          have HBb := hide hb
          have HMm := hide hm
          have D1 := hide d1
          have D2 := hide d2
          have D3 := hide d3
          have D4 := hide d4
          clear ha hb hm d1 d2 d3 d4
          go_wp2_with fail
          refine (rof_any _ i n).mono ?_
          rintro e w9 ⟨rfl, rfl⟩
          rw [HOF.out]
          have G0 := GR
          have p1 : w9.cell? ⟨bp, 1, none⟩ = some (.slice Ao q co) := cell_of_row _ _ 1 _ _ _ G0.out.hp
          have lbp := lt_of_block G0.out.hp
          have sz0 : v0.heap.size ≤ w9.heap.size := G0.out.kb.1
          have hcp0 := own_cap G0.out.ho
          go_wp2_with (at_builtin; refine wpList_app rfl (.tmp 53) (.tmp 55) 22 rfl v0.heap.size 3 a0 (.int .i64 0) 1 8 Try.underlying22 a0i a0z a0s a0b rfl (by decide) (.slice Ao q co) q _ rfl (G0.out.ho.alloc _) (w9.heap.size + 1) (some ⟨w9.heap.size, 0, none⟩) 1 1 [.int .i64 (i : Int)] rfl rfl (Rd.new _ _ _ _) (by simp [Value.oneCell']) (by unfold maxLen; omega) (by omega) (by simp; omega) ?_)
          intro A0' c0' y0 own0 hg0 hat0
          have AP := G0.out.appOwn (x := (i : Int)) hbv (by simp) hwbp hwv own0 hg0
          have q1 : y0.cell? ⟨bp, 1, none⟩ = some (.slice Ao q co) := cell_of_row _ _ 1 _ _ _ AP.1
          have qf1 : y0.frozen? ⟨bp, 1, none⟩ = false := frozen_of_row _ _ 1 _ _ AP.1
          obtain ⟨wa1, hwa1⟩ : ∃ z, y0.setCell ⟨bp, 1, none⟩ (.slice A0' (q + 1) c0') = z := ⟨_, rfl⟩
          have G1 := hide AP.2
          rw [hwa1] at G1
          have HE0 := hide hwa1
          clear AP own0 hg0 hat0 hwa1 p1 lbp G0 hcp0
          go_upto_region 11 with fail
          rw [HE0.out]
          clear HE0 q1 qf1
          have p2 : wa1.cell? ⟨bp, 2, none⟩ = some (.slice Av q cv) := cell_of_row _ _ 2 _ _ _ G1.out.hp
          have lbp := lt_of_block G1.out.hp
          have sz1 : v0.heap.size ≤ wa1.heap.size := G1.out.kb.1
          have hcp1 := own_cap G1.out.hv
          have x1 : wa1.cell? ⟨w.heap.size, 1, none⟩ = some (.slice (some ⟨e1, o1, none⟩) V c1) := (G1.out.kb.cell (p := ⟨w.heap.size, 1, none⟩) (by show w.heap.size < _; omega) HHY.out).trans (cell_of_row _ _ 1 _ _ _ HS0.out)
          have d1 : wa1.cell? ⟨e1, o1 + i, none⟩ = some (.int .i64 a) := (G1.out.bl.cell (p := ⟨e1, o1 + i, none⟩) l1).trans D1.out
          have lw1 : w.heap.size < wa1.heap.size := by omega
          have le1 : e1 < wa1.heap.size := by omega
          refine wpL_region (S := Kept wa1) [8, 10] (by kernel_rfl) (Kept.drew wa1) (fun hS0 => ?_)
          refine takeW_at (i := 0) (d := 58) (v := ?_) (by simp only [List.getElem?_toArray, List.getElem?_cons_succ, List.getElem?_cons_zero]; rfl) rfl (by kernel_rfl) (by kernel_rfl) (by kernel_rfl) (fun _ _ _ h => h) rfl ?_ ?_
          rotate_left
          focus (intro w; go_simp; (try with_reducible rfl); done)
          try simp only [List.setIfInBounds_toArray, List.set_cons_zero, List.set_cons_succ]
          refine takeL_at (i := 1) (d := 59) (v := ?_) (by simp only [List.getElem?_toArray, List.getElem?_cons_succ, List.getElem?_cons_zero]; rfl) rfl (by kernel_rfl) (by kernel_rfl) (by kernel_rfl) (by kernel_rfl) (fun _ _ _ h => h) rfl ?_ (by assumption) ?_
          rotate_left
          focus (intro w hSw; go_simp; (try with_reducible rfl); done)
          try simp only [List.setIfInBounds_toArray, List.set_cons_zero, List.set_cons_succ]
          refine takeW_at (i := 2) (d := 60) (v := ?_) (by simp only [List.getElem?_toArray, List.getElem?_cons_succ, List.getElem?_cons_zero]; rfl) rfl (by kernel_rfl) (by kernel_rfl) (by kernel_rfl) (fun _ _ _ h => h) rfl ?_ ?_
          rotate_left
          focus (intro w; go_simp; (try with_reducible rfl); done)
          try simp only [List.setIfInBounds_toArray, List.set_cons_zero, List.set_cons_succ]
          refine takeU_at [3, 5, 6, 7, 8, 9, 10] (i := 3) (d := 61) (v := ?_) (by simp only [List.getElem?_toArray, List.getElem?_cons_succ, List.getElem?_cons_zero]; rfl) rfl (by kernel_rfl) (by kernel_rfl) (by kernel_rfl) (by kernel_rfl) (by kernel_rfl) (by kernel_rfl) (fun _ _ _ h => h) rfl ?_ (by assumption) ?_
          rotate_left
          focus (intro w hSw; go_simp; (try with_reducible rfl); done)
          try simp only [List.setIfInBounds_toArray, List.set_cons_zero, List.set_cons_succ]
          refine takeW_at (i := 4) (d := 62) (v := ?_) (by simp only [List.getElem?_toArray, List.getElem?_cons_succ, List.getElem?_cons_zero]; rfl) rfl (by kernel_rfl) (by kernel_rfl) (by kernel_rfl) (fun _ _ _ h => h) rfl ?_ ?_
          rotate_left
          focus (intro w; go_simp; (try with_reducible rfl); done)
          try simp only [List.setIfInBounds_toArray, List.set_cons_zero, List.set_cons_succ]
          refine takeW_at (i := 5) (d := 63) (v := ?_) (by simp only [List.getElem?_toArray, List.getElem?_cons_succ, List.getElem?_cons_zero]; rfl) rfl (by kernel_rfl) (by kernel_rfl) (by kernel_rfl) (fun _ _ _ h => h) rfl ?_ ?_
          rotate_left
          focus (intro w; go_simp; (try with_reducible rfl); done)
          try simp only [List.setIfInBounds_toArray, List.set_cons_zero, List.set_cons_succ]
          refine takeU_at [6, 7, 8, 9, 10] (i := 6) (d := 64) (v := ?_) (by simp only [List.getElem?_toArray, List.getElem?_cons_succ, List.getElem?_cons_zero]; rfl) rfl (by kernel_rfl) (by kernel_rfl) (by kernel_rfl) (by kernel_rfl) (by kernel_rfl) (by kernel_rfl) (fun _ _ _ h => h) rfl ?_ (by assumption) ?_
          rotate_left
          focus (intro w hSw; go_simp; (try with_reducible rfl); done)
          try simp only [List.setIfInBounds_toArray, List.set_cons_zero, List.set_cons_succ]
          refine callL_at (i := 7) (d := 65) (by simp only [List.getElem?_toArray, List.getElem?_cons_succ, List.getElem?_cons_zero]; rfl) rfl (by kernel_rfl) rfl (fun K hK => ?_)
          go_simp
          have hS1 : Kept wa1 (wa1.drew.alloc (.cells #[.int .i64 a] 2)) := fun p hp => World.cell?_alloc_lt _ _ _ hp
          refine hK.out _ _ hS1 (fun hSn => ?_)
          clear hK K
          try simp only [List.setIfInBounds_toArray, List.set_cons_zero, List.set_cons_succ]
          refine exL_at (i := 8) (by simp only [List.getElem?_toArray, List.getElem?_cons_succ, List.getElem?_cons_zero]; rfl) (by kernel_rfl) rfl (by kernel_rfl) (fun K hK => ?_)
          refine op_app (.tmp 59) (.tmp 65) 23 rfl v0.heap.size 2 a1 (.int .i64 0) 1 8 Try.underlying23 a1i a1z a1s a1b rfl (by decide) (.slice Av q cv) q _ rfl (G1.out.hv.drew.alloc _) (wa1.heap.size + 1) (some ⟨wa1.heap.size, 0, none⟩) 1 1 [.int .i64 a] rfl rfl (Rd.new _ _ _ _) (by simp [Value.oneCell']) (by unfold maxLen; omega) (by omega) (by simp; omega) ?_
          intro A1' c1' y1 own1 hg1 hat1
          have AP := G1.out.drew.appVals (x := a) hbv (by simp) hwbp hwv own1 hg1
          have q2 : y1.cell? ⟨bp, 2, none⟩ = some (.slice Av q cv) := cell_of_row _ _ 2 _ _ _ AP.1
          have qf2 : y1.frozen? ⟨bp, 2, none⟩ = false := frozen_of_row _ _ 2 _ _ AP.1
          have AP2 := hide AP.2
          clear AP own1 hg1 hat1
          refine hK.out _ _ ?_
          clear hK K
          simp only [Act.put]
          try simp only [List.setIfInBounds_toArray, List.set_cons_zero, List.set_cons_succ]
          refine takeW_at (i := 9) (d := 67) (v := ?_) (by simp only [List.getElem?_toArray, List.getElem?_cons_succ, List.getElem?_cons_zero]; rfl) rfl (by kernel_rfl) (by kernel_rfl) (by kernel_rfl) (fun _ _ _ h => h) rfl ?_ ?_
          rotate_left
          focus (intro w; go_simp; (try with_reducible rfl); done)
          try simp only [List.setIfInBounds_toArray, List.set_cons_zero, List.set_cons_succ]
          refine exL_at (i := 10) (by simp only [List.getElem?_toArray, List.getElem?_cons_succ, List.getElem?_cons_zero]; rfl) (by kernel_rfl) rfl (by kernel_rfl) (fun K hK => ?_)
          go_wp2_with fail
          refine hK.out _ _ ?_
          clear hK K
          try simp only [List.setIfInBounds_toArray, List.set_cons_zero, List.set_cons_succ]
          refine wpAnyL_done (by kernel_rfl) ?_ _
          clear hS0 hSn hS1
          obtain ⟨wa2, hwa2⟩ : ∃ z, y1.setCell ⟨bp, 2, none⟩ (.slice A1' (q + 1) c1') = z := ⟨_, rfl⟩
          have G2 := hide AP2.out
          rw [hwa2] at G2
          have HE1 := hide hwa2
          clear AP2 hwa2 p2 lbp G1 hcp1 x1 d1 lw1 le1
          go_upto_region 12 with fail
          rw [HE1.out]
          clear HE1 q2 qf2
          have p3 : wa2.cell? ⟨bp, 3, none⟩ = some (.slice Ac q cc) := cell_of_row _ _ 3 _ _ _ G2.out.hp
          have lbp := lt_of_block G2.out.hp
          have sz2 : v0.heap.size ≤ wa2.heap.size := G2.out.kb.1
          have hcp2 := own_cap G2.out.hc
          have x2 : wa2.cell? ⟨w.heap.size, 2, none⟩ = some (.slice (some ⟨e2, o2, none⟩) V c2) := (G2.out.kb.cell (p := ⟨w.heap.size, 2, none⟩) (by show w.heap.size < _; omega) HHY.out).trans (cell_of_row _ _ 2 _ _ _ HS0.out)
          have d2 : wa2.cell? ⟨e2, o2 + i, none⟩ = some (.bool b) := (G2.out.bl.cell (p := ⟨e2, o2 + i, none⟩) l2).trans D2.out
          have lw2 : w.heap.size < wa2.heap.size := by omega
          have le2 : e2 < wa2.heap.size := by omega
          refine wpL_region (S := Kept wa2) [8, 10] (by kernel_rfl) (Kept.drew wa2) (fun hS0 => ?_)
          refine takeW_at (i := 0) (d := 68) (v := ?_) (by simp only [List.getElem?_toArray, List.getElem?_cons_succ, List.getElem?_cons_zero]; rfl) rfl (by kernel_rfl) (by kernel_rfl) (by kernel_rfl) (fun _ _ _ h => h) rfl ?_ ?_
          rotate_left
          focus (intro w; go_simp; (try with_reducible rfl); done)
          try simp only [List.setIfInBounds_toArray, List.set_cons_zero, List.set_cons_succ]
          refine takeL_at (i := 1) (d := 69) (v := ?_) (by simp only [List.getElem?_toArray, List.getElem?_cons_succ, List.getElem?_cons_zero]; rfl) rfl (by kernel_rfl) (by kernel_rfl) (by kernel_rfl) (by kernel_rfl) (fun _ _ _ h => h) rfl ?_ (by assumption) ?_
          rotate_left
          focus (intro w hSw; go_simp; (try with_reducible rfl); done)
          try simp only [List.setIfInBounds_toArray, List.set_cons_zero, List.set_cons_succ]
          refine takeW_at (i := 2) (d := 70) (v := ?_) (by simp only [List.getElem?_toArray, List.getElem?_cons_succ, List.getElem?_cons_zero]; rfl) rfl (by kernel_rfl) (by kernel_rfl) (by kernel_rfl) (fun _ _ _ h => h) rfl ?_ ?_
          rotate_left
          focus (intro w; go_simp; (try with_reducible rfl); done)
          try simp only [List.setIfInBounds_toArray, List.set_cons_zero, List.set_cons_succ]
          refine takeU_at [3, 5, 6, 7, 8, 9, 10] (i := 3) (d := 71) (v := ?_) (by simp only [List.getElem?_toArray, List.getElem?_cons_succ, List.getElem?_cons_zero]; rfl) rfl (by kernel_rfl) (by kernel_rfl) (by kernel_rfl) (by kernel_rfl) (by kernel_rfl) (by kernel_rfl) (fun _ _ _ h => h) rfl ?_ (by assumption) ?_
          rotate_left
          focus (intro w hSw; go_simp; (try with_reducible rfl); done)
          try simp only [List.setIfInBounds_toArray, List.set_cons_zero, List.set_cons_succ]
          refine takeW_at (i := 4) (d := 72) (v := ?_) (by simp only [List.getElem?_toArray, List.getElem?_cons_succ, List.getElem?_cons_zero]; rfl) rfl (by kernel_rfl) (by kernel_rfl) (by kernel_rfl) (fun _ _ _ h => h) rfl ?_ ?_
          rotate_left
          focus (intro w; go_simp; (try with_reducible rfl); done)
          try simp only [List.setIfInBounds_toArray, List.set_cons_zero, List.set_cons_succ]
          refine takeW_at (i := 5) (d := 73) (v := ?_) (by simp only [List.getElem?_toArray, List.getElem?_cons_succ, List.getElem?_cons_zero]; rfl) rfl (by kernel_rfl) (by kernel_rfl) (by kernel_rfl) (fun _ _ _ h => h) rfl ?_ ?_
          rotate_left
          focus (intro w; go_simp; (try with_reducible rfl); done)
          try simp only [List.setIfInBounds_toArray, List.set_cons_zero, List.set_cons_succ]
          refine takeU_at [6, 7, 8, 9, 10] (i := 6) (d := 74) (v := ?_) (by simp only [List.getElem?_toArray, List.getElem?_cons_succ, List.getElem?_cons_zero]; rfl) rfl (by kernel_rfl) (by kernel_rfl) (by kernel_rfl) (by kernel_rfl) (by kernel_rfl) (by kernel_rfl) (fun _ _ _ h => h) rfl ?_ (by assumption) ?_
          rotate_left
          focus (intro w hSw; go_simp; (try with_reducible rfl); done)
          try simp only [List.setIfInBounds_toArray, List.set_cons_zero, List.set_cons_succ]
          refine callL_at (i := 7) (d := 75) (by simp only [List.getElem?_toArray, List.getElem?_cons_succ, List.getElem?_cons_zero]; rfl) rfl (by kernel_rfl) rfl (fun K hK => ?_)
          go_simp
          have hS1 : Kept wa2 (wa2.drew.alloc (.cells #[.bool b] 4)) := fun p hp => World.cell?_alloc_lt _ _ _ hp
          refine hK.out _ _ hS1 (fun hSn => ?_)
          clear hK K
          try simp only [List.setIfInBounds_toArray, List.set_cons_zero, List.set_cons_succ]
          refine exL_at (i := 8) (by simp only [List.getElem?_toArray, List.getElem?_cons_succ, List.getElem?_cons_zero]; rfl) (by kernel_rfl) rfl (by kernel_rfl) (fun K hK => ?_)
          refine op_app (.tmp 69) (.tmp 75) 24 rfl v0.heap.size 4 a2 (.bool false) 1 1 Try.underlying24 a2i a2z a2s a2b rfl (by decide) (.slice Ac q cc) q _ rfl (G2.out.hc.drew.alloc _) (wa2.heap.size + 1) (some ⟨wa2.heap.size, 0, none⟩) 1 1 [.bool b] rfl rfl (Rd.new _ _ _ _) (by simp [Value.oneCell']) (by unfold maxLen; omega) (by omega) (by simp; omega) ?_
          intro A2' c2' y2 own2 hg2 hat2
          have AP := G2.out.drew.appChg (x := b) hbv (by simp) hwbp hwv own2 hg2
          have q3 : y2.cell? ⟨bp, 3, none⟩ = some (.slice Ac q cc) := cell_of_row _ _ 3 _ _ _ AP.1
          have qf3 : y2.frozen? ⟨bp, 3, none⟩ = false := frozen_of_row _ _ 3 _ _ AP.1
          have AP2 := hide AP.2
          clear AP own2 hg2 hat2
          refine hK.out _ _ ?_
          clear hK K
          simp only [Act.put]
          try simp only [List.setIfInBounds_toArray, List.set_cons_zero, List.set_cons_succ]
          refine takeW_at (i := 9) (d := 77) (v := ?_) (by simp only [List.getElem?_toArray, List.getElem?_cons_succ, List.getElem?_cons_zero]; rfl) rfl (by kernel_rfl) (by kernel_rfl) (by kernel_rfl) (fun _ _ _ h => h) rfl ?_ ?_
          rotate_left
          focus (intro w; go_simp; (try with_reducible rfl); done)
          try simp only [List.setIfInBounds_toArray, List.set_cons_zero, List.set_cons_succ]
          refine exL_at (i := 10) (by simp only [List.getElem?_toArray, List.getElem?_cons_succ, List.getElem?_cons_zero]; rfl) (by kernel_rfl) rfl (by kernel_rfl) (fun K hK => ?_)
          go_wp2_with fail
          refine hK.out _ _ ?_
          clear hK K
          try simp only [List.setIfInBounds_toArray, List.set_cons_zero, List.set_cons_succ]
          refine wpAnyL_done (by kernel_rfl) ?_ _
          clear hS0 hSn hS1
          obtain ⟨wa3, hwa3⟩ : ∃ z, y2.setCell ⟨bp, 3, none⟩ (.slice A2' (q + 1) c2') = z := ⟨_, rfl⟩
          have G3 := hide AP2.out
          rw [hwa3] at G3
          have HE2 := hide hwa3
          clear AP2 hwa3 p3 lbp G2 hcp2 x2 d2 lw2 le2
          go_upto_region 13 with fail
          rw [HE2.out]
          clear HE2 q3 qf3
          have p4 : wa3.cell? ⟨bp, 4, none⟩ = some (.slice Ai q ci) := cell_of_row _ _ 4 _ _ _ G3.out.hp
          have lbp := lt_of_block G3.out.hp
          have sz3 : v0.heap.size ≤ wa3.heap.size := G3.out.kb.1
          have hcp3 := own_cap G3.out.hi
          have x3 : wa3.cell? ⟨w.heap.size, 3, none⟩ = some (.slice (some ⟨e3, o3, none⟩) V c3) := (G3.out.kb.cell (p := ⟨w.heap.size, 3, none⟩) (by show w.heap.size < _; omega) HHY.out).trans (cell_of_row _ _ 3 _ _ _ HS0.out)
          have d3 : wa3.cell? ⟨e3, o3 + i * 2, none⟩ = some (.bool m.1) := (G3.out.bl.cell (p := ⟨e3, o3 + i * 2, none⟩) l3).trans D3.out
          have d4 : wa3.cell? ⟨e3, o3 + i * 2 + 1, none⟩ = some (.int .i64 m.2) := (G3.out.bl.cell (p := ⟨e3, o3 + i * 2 + 1, none⟩) l3).trans D4.out
          have lw3 : w.heap.size < wa3.heap.size := by omega
          have le3 : e3 < wa3.heap.size := by omega
          refine wpL_region (S := Kept wa3) [8, 10] (by kernel_rfl) (Kept.drew wa3) (fun hS0 => ?_)
          refine takeW_at (i := 0) (d := 78) (v := ?_) (by simp only [List.getElem?_toArray, List.getElem?_cons_succ, List.getElem?_cons_zero]; rfl) rfl (by kernel_rfl) (by kernel_rfl) (by kernel_rfl) (fun _ _ _ h => h) rfl ?_ ?_
          rotate_left
          focus (intro w; go_simp; (try with_reducible rfl); done)
          try simp only [List.setIfInBounds_toArray, List.set_cons_zero, List.set_cons_succ]
          refine takeL_at (i := 1) (d := 79) (v := ?_) (by simp only [List.getElem?_toArray, List.getElem?_cons_succ, List.getElem?_cons_zero]; rfl) rfl (by kernel_rfl) (by kernel_rfl) (by kernel_rfl) (by kernel_rfl) (fun _ _ _ h => h) rfl ?_ (by assumption) ?_
          rotate_left
          focus (intro w hSw; go_simp; (try with_reducible rfl); done)
          try simp only [List.setIfInBounds_toArray, List.set_cons_zero, List.set_cons_succ]
          refine takeW_at (i := 2) (d := 80) (v := ?_) (by simp only [List.getElem?_toArray, List.getElem?_cons_succ, List.getElem?_cons_zero]; rfl) rfl (by kernel_rfl) (by kernel_rfl) (by kernel_rfl) (fun _ _ _ h => h) rfl ?_ ?_
          rotate_left
          focus (intro w; go_simp; (try with_reducible rfl); done)
          try simp only [List.setIfInBounds_toArray, List.set_cons_zero, List.set_cons_succ]
          refine takeU_at [3, 5, 6, 7, 8, 9, 10] (i := 3) (d := 81) (v := ?_) (by simp only [List.getElem?_toArray, List.getElem?_cons_succ, List.getElem?_cons_zero]; rfl) rfl (by kernel_rfl) (by kernel_rfl) (by kernel_rfl) (by kernel_rfl) (by kernel_rfl) (by kernel_rfl) (fun _ _ _ h => h) rfl ?_ (by assumption) ?_
          rotate_left
          focus (intro w hSw; go_simp; (try with_reducible rfl); done)
          try simp only [List.setIfInBounds_toArray, List.set_cons_zero, List.set_cons_succ]
          refine takeW_at (i := 4) (d := 82) (v := ?_) (by simp only [List.getElem?_toArray, List.getElem?_cons_succ, List.getElem?_cons_zero]; rfl) rfl (by kernel_rfl) (by kernel_rfl) (by kernel_rfl) (fun _ _ _ h => h) rfl ?_ ?_
          rotate_left
          focus (intro w; go_simp; (try with_reducible rfl); done)
          try simp only [List.setIfInBounds_toArray, List.set_cons_zero, List.set_cons_succ]
          refine takeW_at (i := 5) (d := 83) (v := ?_) (by simp only [List.getElem?_toArray, List.getElem?_cons_succ, List.getElem?_cons_zero]; rfl) rfl (by kernel_rfl) (by kernel_rfl) (by kernel_rfl) (fun _ _ _ h => h) rfl ?_ ?_
          rotate_left
          focus (intro w; go_simp; (try with_reducible rfl); done)
          try simp only [List.setIfInBounds_toArray, List.set_cons_zero, List.set_cons_succ]
          refine takeU_at [6, 7, 8, 9, 10] (i := 6) (d := 84) (v := ?_) (by simp only [List.getElem?_toArray, List.getElem?_cons_succ, List.getElem?_cons_zero]; rfl) rfl (by kernel_rfl) (by kernel_rfl) (by kernel_rfl) (by kernel_rfl) (by kernel_rfl) (by kernel_rfl) (fun _ _ _ h => h) rfl ?_ (by assumption) ?_
          rotate_left
          focus (intro w hSw; go_simp; (try with_reducible rfl); done)
          try simp only [List.setIfInBounds_toArray, List.set_cons_zero, List.set_cons_succ]
          refine callL_at (i := 7) (d := 85) (by simp only [List.getElem?_toArray, List.getElem?_cons_succ, List.getElem?_cons_zero]; rfl) rfl (by kernel_rfl) rfl (fun K hK => ?_)
          go_simp
          have hS1 : Kept wa3 (wa3.drew.alloc (.cells #[.bool m.1, .int .i64 m.2] 61)) := fun p hp => World.cell?_alloc_lt _ _ _ hp
          refine hK.out _ _ hS1 (fun hSn => ?_)
          clear hK K
          try simp only [List.setIfInBounds_toArray, List.set_cons_zero, List.set_cons_succ]
          refine exL_at (i := 8) (by simp only [List.getElem?_toArray, List.getElem?_cons_succ, List.getElem?_cons_zero]; rfl) (by kernel_rfl) rfl (by kernel_rfl) (fun K hK => ?_)
          refine op_app (.tmp 79) (.tmp 85) 25 rfl v0.heap.size 61 a3 (.agg #[.bool false, .int .i64 0]) 2 16 Try.underlying25 a3i a3z a3s a3b rfl (by decide) (.slice Ai q ci) q _ rfl (G3.out.hi.drew.alloc _) (wa3.heap.size + 1) (some ⟨wa3.heap.size, 0, none⟩) 1 1 [.bool m.1, .int .i64 m.2] rfl rfl (Rd.new _ _ _ _) (by simp [Value.oneCell']) (by unfold maxLen; omega) (by omega) (by simp; omega) ?_
          intro A3' c3' y3 own3 hg3 hat3
          have AP := G3.out.drew.appInb (x := m) hbv (by simp) hwbp hwv own3 hg3
          have q4 : y3.cell? ⟨bp, 4, none⟩ = some (.slice Ai q ci) := cell_of_row _ _ 4 _ _ _ AP.1
          have qf4 : y3.frozen? ⟨bp, 4, none⟩ = false := frozen_of_row _ _ 4 _ _ AP.1
          have AP2 := hide AP.2
          clear AP own3 hg3 hat3
          refine hK.out _ _ ?_
          clear hK K
          simp only [Act.put]
          try simp only [List.setIfInBounds_toArray, List.set_cons_zero, List.set_cons_succ]
          refine takeW_at (i := 9) (d := 87) (v := ?_) (by simp only [List.getElem?_toArray, List.getElem?_cons_succ, List.getElem?_cons_zero]; rfl) rfl (by kernel_rfl) (by kernel_rfl) (by kernel_rfl) (fun _ _ _ h => h) rfl ?_ ?_
          rotate_left
          focus (intro w; go_simp; (try with_reducible rfl); done)
          try simp only [List.setIfInBounds_toArray, List.set_cons_zero, List.set_cons_succ]
          refine exL_at (i := 10) (by simp only [List.getElem?_toArray, List.getElem?_cons_succ, List.getElem?_cons_zero]; rfl) (by kernel_rfl) rfl (by kernel_rfl) (fun K hK => ?_)
          go_wp2_with fail
          refine hK.out _ _ ?_
          clear hK K
          try simp only [List.setIfInBounds_toArray, List.set_cons_zero, List.set_cons_succ]
          refine wpAnyL_done (by kernel_rfl) ?_ _
          clear hS0 hSn hS1
          obtain ⟨wa4, hwa4⟩ : ∃ z, y3.setCell ⟨bp, 4, none⟩ (.slice A3' (q + 1) c3') = z := ⟨_, rfl⟩
          have G4 := hide AP2.out
          rw [hwa4] at G4
          have HE3 := hide hwa4
          clear AP2 hwa4 p4 lbp G3 hcp3 x3 d3 lw3 le3 d4
          have HQ2 : Hid ((ownUpto n k (i + 1)).length = q + 1) := hide (by rw [HSN.out, List.length_append, HQ.out]; rfl)
          have GN : Hid (GetSt [bp] v0 w bp 35 st (ownUpto n k (i + 1)) (pv vals (ownUpto n k (i + 1))) (pc chg (ownUpto n k (i + 1))) (pm inb (ownUpto n k (i + 1))) A0' c0' A1' c1' A2' c2' A3' c3' (q + 1) (q + 1) (q + 1) (q + 1) wa4) := hide (by rw [HSN.out, pv_snoc HA.out, pc_snoc HBb.out, pm_snoc HMm.out]; exact G4.out)
          clear G4
          go_wp2
          rw [HE3.out]
          go_roundw
          case rel => first | exact ⟨i + 1, q + 1, A0', c0', A1', c1', A2', c2', A3', c3', by omega, by go_num, HQ2, GN⟩ | ((repeat apply Exists.intro); exact ⟨⟨i + 1, q + 1, A0', c0', A1', c1', A2', c2', A3', c3', by omega, by go_num, HQ2, GN⟩, rfl⟩)
          case measure => simp [intOf]; omega
        · obtain ⟨z, hz⟩ : ∃ z, ofF (i : Int) n = z := ⟨_, rfl⟩
          have hzk : ¬ z = k := by rw [← hz]; exact hsel
          have HSN := hide (own_snoc_out hsel)
          have HZ := hide hz
          clear hz hsel
          go_wp2_with fail
          refine (rof_any _ i n).mono ?_
          rintro e w9 ⟨rfl, rfl⟩
          rw [HZ.out]
          have HQn : Hid ((ownUpto n k (i + 1)).length = q) := hide (by rw [HSN.out]; exact HQ.out)
          have GRn : Hid (GetSt [bp] v0 w bp 35 st (ownUpto n k (i + 1)) (pv vals (ownUpto n k (i + 1))) (pc chg (ownUpto n k (i + 1))) (pm inb (ownUpto n k (i + 1))) Ao co Av cv Ac cc Ai ci q q q q w9) := hide (by rw [HSN.out]; exact GR.out)
          clear HQ GR
          go_wp2
          go_roundw
          case rel => first | exact ⟨i + 1, q, Ao, co, Av, cv, Ac, cc, Ai, ci, by omega, by go_num, HQn, GRn⟩ | ((repeat apply Exists.intro); exact ⟨⟨i + 1, q, Ao, co, Av, cv, Ac, cc, Ai, ci, by omega, by go_num, HQn, GRn⟩, rfl⟩)
          case measure => simp [intOf]; omega
      · obtain rfl : i = V := by omega
        have x1 : wr.cell? ⟨w.heap.size, 1, none⟩ = some (.slice A1 i c1) := (GR.out.kb.cell (p := ⟨w.heap.size, 1, none⟩) (by show w.heap.size < _; omega) HHY.out).trans (cell_of_row _ _ 1 _ _ _ HS0.out)
        have lw : w.heap.size < wr.heap.size := by omega
        have ZW := hide ((GR.out.kb.2 _ hHv HHX.out).trans HZ0.out)
        have p0 : wr.cell? ⟨bp, 0, none⟩ = some (.int .i64 st) := cell_of_row _ _ 0 _ _ _ GR.out.hp
        have p1 : wr.cell? ⟨bp, 1, none⟩ = some (.slice Ao q co) := cell_of_row _ _ 1 _ _ _ GR.out.hp
        have p2 : wr.cell? ⟨bp, 2, none⟩ = some (.slice Av q cv) := cell_of_row _ _ 2 _ _ _ GR.out.hp
        have p3 : wr.cell? ⟨bp, 3, none⟩ = some (.slice Ac q cc) := cell_of_row _ _ 3 _ _ _ GR.out.hp
        have p4 : wr.cell? ⟨bp, 4, none⟩ = some (.slice Ai q ci) := cell_of_row _ _ 4 _ _ _ GR.out.hp
        have lbp := lt_of_block GR.out.hp
        have z0 : wr.cell? ⟨w.heap.size + 1, 0, none⟩ = some (.int .i64 0) := cell_of_row _ _ 0 _ _ _ ZW.out
        have zf0 : wr.frozen? ⟨w.heap.size + 1, 0, none⟩ = false := frozen_of_row _ _ 0 _ _ ZW.out
        have z1 : wr.cell? ⟨w.heap.size + 1, 1, none⟩ = some (.slice none 0 0) := cell_of_row _ _ 1 _ _ _ ZW.out
        have zf1 : wr.frozen? ⟨w.heap.size + 1, 1, none⟩ = false := frozen_of_row _ _ 1 _ _ ZW.out
        have z2 : wr.cell? ⟨w.heap.size + 1, 2, none⟩ = some (.slice none 0 0) := cell_of_row _ _ 2 _ _ _ ZW.out
        have zf2 : wr.frozen? ⟨w.heap.size + 1, 2, none⟩ = false := frozen_of_row _ _ 2 _ _ ZW.out
        have z3 : wr.cell? ⟨w.heap.size + 1, 3, none⟩ = some (.slice none 0 0) := cell_of_row _ _ 3 _ _ _ ZW.out
        have zf3 : wr.frozen? ⟨w.heap.size + 1, 3, none⟩ = false := frozen_of_row _ _ 3 _ _ ZW.out
        have z4 : wr.cell? ⟨w.heap.size + 1, 4, none⟩ = some (.slice none 0 0) := cell_of_row _ _ 4 _ _ _ ZW.out
        have zf4 : wr.frozen? ⟨w.heap.size + 1, 4, none⟩ = false := frozen_of_row _ _ 4 _ _ ZW.out
        have HFin := hide (five_fin_rows (.int .i64 st) (.slice Ao q co) (.slice Av q cv) (.slice Ac q cc) (.slice Ai q ci) (show w.heap.size ≤ w.heap.size + 1 by omega) ZW.out GR.out.bl hHv (rows_of GR.out))
        have HQ2 : Hid ((ownUpto n k vals.length).length = q) := hide (by rw [HV.out]; exact HQ.out)
        go_wp2
        obtain ⟨f, hf, hfB, h6, hr⟩ := HFin.out
        rw [hf]
        have y0 : f.cell? ⟨w.heap.size + 1, 0, none⟩ = some (.int .i64 st) := cell_of_row _ _ 0 _ _ _ h6
        have y1 : f.cell? ⟨w.heap.size + 1, 1, none⟩ = some (.slice Ao q co) := cell_of_row _ _ 1 _ _ _ h6
        have y2 : f.cell? ⟨w.heap.size + 1, 2, none⟩ = some (.slice Av q cv) := cell_of_row _ _ 2 _ _ _ h6
        have y3 : f.cell? ⟨w.heap.size + 1, 3, none⟩ = some (.slice Ac q cc) := cell_of_row _ _ 3 _ _ _ h6
        have y4 : f.cell? ⟨w.heap.size + 1, 4, none⟩ = some (.slice Ai q ci) := cell_of_row _ _ 4 _ _ _ h6
        exact bodyPost_ret (v := .tuple #[.agg #[.int .i64 st, .slice Ao q co, .slice Av q cv, .slice Ac q cc, .slice Ai q ci], .int .i64 0]) (by simp [results, Try.results22, go_sem, y0, y1, y2, y3, y4]) rfl (take_ok HN.out HQ2.out (by omega) (by rw [HV.out]; exact hr.sin) hfB)
end Go.Proofs.Ytgfdlllmcbgbcaa

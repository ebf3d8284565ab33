/- The walk of the statement StatesPut. (printed by gen/spw.py) -/
import Derived.Test.YtgfdlllmcbgbcaaSwk
import Derived.Test.YtgfdlllmcbgbcaaRpt
import Derived.Test.YtgfdlllmcbgbcaaOsp
namespace Go.Proofs.Ytgfdlllmcbgbcaa
open Go.ChangeShapes Go.WideShapes Go.ChangeAt Go.RowKit
set_option linter.unusedVariables false
set_option linter.unusedSimpArgs false
theorem str_kept {v : World} {A : Option Addr} {bs : List UInt8} {n c : Nat} (h : Rd v v.heap.size A (u8s bs)) (hn : bs.length = n) : ∀ w, Kept v w → (convert 30 9 (.slice A n c)).run Try.prog w = .ok (.string ⟨bs.toArray⟩) w := by
  subst hn
  intro w hk
  exact run_string_of w 30 9 5 A c _ bs Try.underlying30 Try.underlying5 Try.underlying9 (h.keep hk)
set_option maxRecDepth 100000 in
set_option maxHeartbeats 16000000 in
theorem statesPut_walk (w : World) (p : SPart) (Ao Av Ac Ai : Option Addr) (no nv nc ni co cv cc ci : Nat) (hlen : SLen p no nv nc ni) (hi : SIn w p Ao Av Ac Ai) (hb : no ≤ 9223372036854775807 ∧ nv ≤ 9223372036854775807 ∧ nc ≤ 9223372036854775807 ∧ ni ≤ 9223372036854775807) :
    Calls Try.prog 3 #[.agg #[.int .i64 p.step, .slice Ao no co, .slice Av nv cv, .slice Ac nc cc, .slice Ai ni ci]] w fun e W' => e = .returned (.bool true) ∧ Below w.heap.size w W' := by
  obtain ⟨hbo, hbv, hbc, hbi⟩ := hb
  obtain ⟨u, hu⟩ : ∃ u, w.alloc (.cells #[.int .i64 p.step, .slice Ao no co, .slice Av nv cv, .slice Ac nc cc, .slice Ai ni ci] 27) = u := ⟨_, rfl⟩
  have hzu : w.heap.size + 1 ≤ u.heap.size := by rw [← hu]; simp
  have hbu : Below w.heap.size w u := by rw [← hu]; exact (Below.refl _ _).alloc (Nat.le_refl _) _
  have hcu : u.heap[w.heap.size]? = some (.cells #[.int .i64 p.step, .slice Ao no co, .slice Av nv cv, .slice Ac nc cc, .slice Ai ni ci] 27) := by rw [← hu]; exact heap_alloc_last _ _
  have E0 := hide (show u.cell? ⟨w.heap.size, 0, none⟩ = some (.int .i64 p.step) from cell_of_row _ _ 0 _ _ _ hcu)
  have E1 := hide (show u.cell? ⟨w.heap.size, 1, none⟩ = some (.slice Ao no co) from cell_of_row _ _ 1 _ _ _ hcu)
  have E2 := hide (show u.cell? ⟨w.heap.size, 2, none⟩ = some (.slice Av nv cv) from cell_of_row _ _ 2 _ _ _ hcu)
  have E3 := hide (show u.cell? ⟨w.heap.size, 3, none⟩ = some (.slice Ac nc cc) from cell_of_row _ _ 3 _ _ _ hcu)
  have E4 := hide (show u.cell? ⟨w.heap.size, 4, none⟩ = some (.slice Ai ni ci) from cell_of_row _ _ 4 _ _ _ hcu)
  have HI := hide (hi.next hbu)
  have HLen := hide hlen
  have HB := hide hbu
  have HU := hide hu
  have KU := hide (Below.refl u.heap.size u)
  clear hu hbu hcu hi hlen
  rcases hf : (decide (no ≤ 60) && decide (nv ≤ 60) && decide (nc ≤ 60) && decide (ni ≤ 60)) with _ | _
  · have HF := hide hf
    clear hf
    go_enter Try.func3, Try.ntmps3
    go_wp2_with fail
    rw [HU.out]
    refine (sfew_any u p.step Ao Av Ac Ai no nv nc ni co cv cc ci).mono ?_
    rintro e y1 ⟨rfl, kk⟩
    rw [HF.out]
    have KU' := hide (KU.out.trans (kk.mono KU.out.size))
    clear KU kk
    have KU := KU'
    clear KU'
    have HIc := hide (HI.out.next KU.out)
    have su : u.heap.size ≤ y1.heap.size := KU.out.size
    have lw : w.heap.size < y1.heap.size := by omega
    go_wp2_with fail
    refine (works_any _).mono ?_
    rintro e y2 ⟨rfl, k2⟩
    have HFin := hide (HB.out.trans ((KU.out.trans (k2.mono KU.out.size)).mono (by omega)))
    clear k2
    go_wp2
    go_ret
    exact ⟨rfl, HFin.out⟩
  · have HF := hide hf
    have hno : no ≤ 60 := by simp only [Bool.and_eq_true, decide_eq_true_eq] at hf; exact hf.1.1.1
    clear hf
    obtain ⟨q, hq⟩ : ∃ q, rightB p = q := ⟨_, rfl⟩
    have HQ := hide hq
    clear hq
    go_enter Try.func3, Try.ntmps3
    go_wp2_with fail
    rw [HU.out]
    refine (sfew_any u p.step Ao Av Ac Ai no nv nc ni co cv cc ci).mono ?_
    rintro e y1 ⟨rfl, kk⟩
    rw [HF.out]
    have KU' := hide (KU.out.trans (kk.mono KU.out.size))
    clear KU kk
    have KU := KU'
    clear KU'
    have HIc := hide (HI.out.next KU.out)
    have su : u.heap.size ≤ y1.heap.size := KU.out.size
    have lw : w.heap.size < y1.heap.size := by omega
    have x0 : y1.cell? ⟨w.heap.size, 0, none⟩ = some (.int .i64 p.step) := (KU.out.cell (p := ⟨w.heap.size, 0, none⟩) (by show w.heap.size < _; omega)).trans E0.out
    have x1 : y1.cell? ⟨w.heap.size, 1, none⟩ = some (.slice Ao no co) := (KU.out.cell (p := ⟨w.heap.size, 1, none⟩) (by show w.heap.size < _; omega)).trans E1.out
    have x2 : y1.cell? ⟨w.heap.size, 2, none⟩ = some (.slice Av nv cv) := (KU.out.cell (p := ⟨w.heap.size, 2, none⟩) (by show w.heap.size < _; omega)).trans E2.out
    have x3 : y1.cell? ⟨w.heap.size, 3, none⟩ = some (.slice Ac nc cc) := (KU.out.cell (p := ⟨w.heap.size, 3, none⟩) (by show w.heap.size < _; omega)).trans E3.out
    have x4 : y1.cell? ⟨w.heap.size, 4, none⟩ = some (.slice Ai ni ci) := (KU.out.cell (p := ⟨w.heap.size, 4, none⟩) (by show w.heap.size < _; omega)).trans E4.out
    go_wp2_with fail
    refine (sput_any y1 p Ao Av Ac Ai no nv nc ni co cv cc ci HLen.out (by omega) HIc.out).mono ?_
    rintro e y2 ⟨A1, c1, n1, hn1, rfl, hr1, hc1, hm1, kk⟩
    have R1 := hide hr1
    have HN1 := hide hn1
    clear x0 x1 x2 x3 x4
    clear hr1 hn1 HIc su lw
    have ky2 := hide kk
    have KU' := hide (KU.out.trans (kk.mono KU.out.size))
    clear KU kk
    have KU := KU'
    clear KU'
    have HIc := hide (HI.out.next KU.out)
    have su : u.heap.size ≤ y2.heap.size := KU.out.size
    have lw : w.heap.size < y2.heap.size := by omega
    have x0 : y2.cell? ⟨w.heap.size, 0, none⟩ = some (.int .i64 p.step) := (KU.out.cell (p := ⟨w.heap.size, 0, none⟩) (by show w.heap.size < _; omega)).trans E0.out
    have x1 : y2.cell? ⟨w.heap.size, 1, none⟩ = some (.slice Ao no co) := (KU.out.cell (p := ⟨w.heap.size, 1, none⟩) (by show w.heap.size < _; omega)).trans E1.out
    have x2 : y2.cell? ⟨w.heap.size, 2, none⟩ = some (.slice Av nv cv) := (KU.out.cell (p := ⟨w.heap.size, 2, none⟩) (by show w.heap.size < _; omega)).trans E2.out
    have x3 : y2.cell? ⟨w.heap.size, 3, none⟩ = some (.slice Ac nc cc) := (KU.out.cell (p := ⟨w.heap.size, 3, none⟩) (by show w.heap.size < _; omega)).trans E3.out
    have x4 : y2.cell? ⟨w.heap.size, 4, none⟩ = some (.slice Ai ni ci) := (KU.out.cell (p := ⟨w.heap.size, 4, none⟩) (by show w.heap.size < _; omega)).trans E4.out
    go_wp2_with fail
    refine (splain_any y2 p.step Ao Av Ac Ai no nv nc ni co cv cc ci).mono ?_
    rintro e y3 ⟨rfl, kk⟩
    have ky3 := hide kk
    clear x0 x1 x2 x3 x4
    clear HIc su lw
    have KU' := hide (KU.out.trans (kk.mono KU.out.size))
    clear KU kk
    have KU := KU'
    clear KU'
    have HIc := hide (HI.out.next KU.out)
    have su : u.heap.size ≤ y3.heap.size := KU.out.size
    have lw : w.heap.size < y3.heap.size := by omega
    go_wp2_with fail
    refine (rput_any y3 p Ao Av Ac Ai no nv nc ni co cv cc ci HLen.out (by omega) HIc.out).mono ?_
    rintro e y4 ⟨A2, c2, n2, hn2, rfl, hr2, hc2, hm2, kk⟩
    obtain rfl : n2 = n1 := by have := HN1.out; omega
    have ky4 := hide kk
    clear HIc su lw
    have KU' := hide (KU.out.trans (kk.mono KU.out.size))
    clear KU kk
    have KU := KU'
    clear KU'
    have HIc := hide (HI.out.next KU.out)
    have su : u.heap.size ≤ y4.heap.size := KU.out.size
    have lw : w.heap.size < y4.heap.size := by omega
    have hk1 := hide (str_kept (c := c1) ((R1.out.next ky3.out).next ky4.out) HN1.out)
    have hk2 := hide (str_kept (c := c2) hr2 hn2)
    clear hr2 hn2 R1 ky2 ky3 ky4
    have x0 : y4.cell? ⟨w.heap.size, 0, none⟩ = some (.int .i64 p.step) := (KU.out.cell (p := ⟨w.heap.size, 0, none⟩) (by show w.heap.size < _; omega)).trans E0.out
    have x1 : y4.cell? ⟨w.heap.size, 1, none⟩ = some (.slice Ao no co) := (KU.out.cell (p := ⟨w.heap.size, 1, none⟩) (by show w.heap.size < _; omega)).trans E1.out
    have x2 : y4.cell? ⟨w.heap.size, 2, none⟩ = some (.slice Av nv cv) := (KU.out.cell (p := ⟨w.heap.size, 2, none⟩) (by show w.heap.size < _; omega)).trans E2.out
    have x3 : y4.cell? ⟨w.heap.size, 3, none⟩ = some (.slice Ac nc cc) := (KU.out.cell (p := ⟨w.heap.size, 3, none⟩) (by show w.heap.size < _; omega)).trans E3.out
    have x4 : y4.cell? ⟨w.heap.size, 4, none⟩ = some (.slice Ai ni ci) := (KU.out.cell (p := ⟨w.heap.size, 4, none⟩) (by show w.heap.size < _; omega)).trans E4.out
    have HIw := HIc
    go_upto_region 5 with fail
    obtain ⟨ws, rfl⟩ : ∃ z : World, z = y4 := ⟨_, rfl⟩
    rcases q with _ | _
    · refine wp_region_held_drew (S := Kept ws) (by kernel_rfl) (Kept.drew ws) (fun hS0 => ?_)
      refine take_at (i := 0) (d := 22) (v := ?_) (by simp only [List.getElem?_toArray, List.getElem?_cons_succ, List.getElem?_cons_zero]; rfl) rfl (by kernel_rfl) (by kernel_rfl) (by kernel_rfl) (fun _ _ _ h => h) rfl ?_ (by assumption) ?_
      rotate_left
      focus (intro w hSw; go_simp; (try with_reducible rfl); done)
      try simp only [List.setIfInBounds_toArray, List.set_cons_zero, List.set_cons_succ]
      refine take_at (i := 2) (d := 24) (v := ?_) (by simp only [List.getElem?_toArray, List.getElem?_cons_succ, List.getElem?_cons_zero]; rfl) rfl (by kernel_rfl) (by kernel_rfl) (by kernel_rfl) (fun _ _ _ h => h) rfl ?_ (by assumption) ?_
      rotate_left
      focus (intro w hSw; go_simp; (try with_reducible rfl); done)
      try simp only [List.setIfInBounds_toArray, List.set_cons_zero, List.set_cons_succ]
      refine call_at (i := 1) (d := 23) (by simp only [List.getElem?_toArray, List.getElem?_cons_succ, List.getElem?_cons_zero]; rfl) rfl (by kernel_rfl) rfl (fun K hK => ?_)
      go_simp
      refine (right_any ws.drew p Ao Av Ac Ai no nv nc ni co cv cc ci HLen.out hbo (SIn.drew HIw.out)).mono ?_
      rintro e z1 ⟨rfl, k1⟩
      have hS1 : Kept ws z1 := hS0.below (by simp) k1
      have K1 := hide (below_start k1)
      have HI1 := hide (HIw.out.next K1.out)
      have s1 := K1.out.size
      clear k1
      rw [HQ.out]
      go_wp2_with fail
      refine hK.out _ _ hS1 (fun hSn => ?_)
      clear hK K
      try simp only [List.setIfInBounds_toArray, List.set_cons_zero, List.set_cons_succ]
      refine call_at (i := 3) (d := 25) (by simp only [List.getElem?_toArray, List.getElem?_cons_succ, List.getElem?_cons_zero]; rfl) rfl (by kernel_rfl) rfl (fun K hK => ?_)
      go_simp
      refine (splain_any _ p.step Ao Av Ac Ai no nv nc ni co cv cc ci).mono ?_
      rintro e z2 ⟨rfl, k2⟩
      have hS2 : Kept ws z2 := hS1.below s1 k2
      have K2 := hide k2
      have HI2 := hide (HI1.out.next k2)
      have s2 : z1.heap.size ≤ z2.heap.size := k2.size
      clear k2
      go_wp2_with fail
      refine hK.out _ _ hS2 (fun hSn => ?_)
      clear hK K
      try simp only [List.setIfInBounds_toArray, List.set_cons_zero, List.set_cons_succ]
      refine call_at (i := 4) (d := 26) (by simp only [List.getElem?_toArray, List.getElem?_cons_succ, List.getElem?_cons_zero]; rfl) rfl (by kernel_rfl) rfl (fun K hK => ?_)
      go_simp
      refine (rright_any z2 p Ao Av Ac Ai no nv nc ni co cv cc ci HLen.out hbo HI2.out).mono ?_
      rintro e z3 ⟨rfl, k3⟩
      have hS3 : Kept ws z3 := hS2.below (by omega) k3
      have K3 := hide k3
      have s3 : z2.heap.size ≤ z3.heap.size := k3.size
      clear k3
      rw [HQ.out]
      go_wp2_with fail
      refine hK.out _ _ hS3 (fun hSn => ?_)
      clear hK K
      try simp only [List.setIfInBounds_toArray, List.set_cons_zero, List.set_cons_succ]
      refine take_at (i := 5) (d := 27) (v := ?_) (by simp only [List.getElem?_toArray, List.getElem?_cons_succ, List.getElem?_cons_zero]; rfl) rfl (by kernel_rfl) (by kernel_rfl) (by kernel_rfl) (fun _ _ _ h => h) rfl ?_ (by assumption) ?_
      rotate_left
      focus (intro w hSw; go_simp; (try with_reducible rfl); done)
      try simp only [List.setIfInBounds_toArray, List.set_cons_zero, List.set_cons_succ]
      refine take_at (i := 6) (d := 28) (v := ?_) (by simp only [List.getElem?_toArray, List.getElem?_cons_succ, List.getElem?_cons_zero]; rfl) rfl (by kernel_rfl) (by kernel_rfl) (by kernel_rfl) (fun _ _ _ h => h) rfl ?_ (by assumption) ?_
      rotate_left
      focus (intro w hSw; go_simp; (try with_reducible rfl); done)
      try simp only [List.setIfInBounds_toArray, List.set_cons_zero, List.set_cons_succ]
      refine take_at (i := 7) (d := 29) (v := ?_) (by simp only [List.getElem?_toArray, List.getElem?_cons_succ, List.getElem?_cons_zero]; rfl) rfl (by kernel_rfl) (by kernel_rfl) (by kernel_rfl) (fun _ _ _ h => h) rfl ?_ (by assumption) ?_
      rotate_left
      focus (intro w hSw; go_simp; (try with_reducible rfl); done)
      try simp only [List.setIfInBounds_toArray, List.set_cons_zero, List.set_cons_succ]
      refine take_at (i := 8) (d := 30) (v := ?_) (by simp only [List.getElem?_toArray, List.getElem?_cons_succ, List.getElem?_cons_zero]; rfl) rfl (by kernel_rfl) (by kernel_rfl) (by kernel_rfl) (fun _ _ _ h => h) rfl ?_ (by assumption) ?_
      rotate_left
      focus (intro w hSw; have hh := hk1.out w hSw; go_simp; (try with_reducible rfl); done)
      try simp only [List.setIfInBounds_toArray, List.set_cons_zero, List.set_cons_succ]
      refine take_at (i := 9) (d := 31) (v := ?_) (by simp only [List.getElem?_toArray, List.getElem?_cons_succ, List.getElem?_cons_zero]; rfl) rfl (by kernel_rfl) (by kernel_rfl) (by kernel_rfl) (fun _ _ _ h => h) rfl ?_ (by assumption) ?_
      rotate_left
      focus (intro w hSw; go_simp; (try with_reducible rfl); done)
      try simp only [List.setIfInBounds_toArray, List.set_cons_zero, List.set_cons_succ]
      refine take_at (i := 10) (d := 32) (v := ?_) (by simp only [List.getElem?_toArray, List.getElem?_cons_succ, List.getElem?_cons_zero]; rfl) rfl (by kernel_rfl) (by kernel_rfl) (by kernel_rfl) (fun _ _ _ h => h) rfl ?_ (by assumption) ?_
      rotate_left
      focus (intro w hSw; have hh := hk2.out w hSw; go_simp; (try with_reducible rfl); done)
      try simp only [List.setIfInBounds_toArray, List.set_cons_zero, List.set_cons_succ]
      refine take_at (i := 11) (d := 33) (v := ?_) (by simp only [List.getElem?_toArray, List.getElem?_cons_succ, List.getElem?_cons_zero]; rfl) rfl (by kernel_rfl) (by kernel_rfl) (by kernel_rfl) (fun _ _ _ h => h) rfl ?_ (by assumption) ?_
      rotate_left
      focus (intro w hSw; go_simp; (try with_reducible rfl); done)
      try simp only [List.setIfInBounds_toArray, List.set_cons_zero, List.set_cons_succ]
      refine take_at (i := 12) (d := 34) (v := ?_) (by simp only [List.getElem?_toArray, List.getElem?_cons_succ, List.getElem?_cons_zero]; rfl) rfl (by kernel_rfl) (by kernel_rfl) (by kernel_rfl) (fun _ _ _ h => h) rfl ?_ (by assumption) ?_
      rotate_left
      focus (intro w hSw; go_simp; (try with_reducible rfl); done)
      try simp only [List.setIfInBounds_toArray, List.set_cons_zero, List.set_cons_succ]
      refine take_at (i := 13) (d := 35) (v := ?_) (by simp only [List.getElem?_toArray, List.getElem?_cons_succ, List.getElem?_cons_zero]; rfl) rfl (by kernel_rfl) (by kernel_rfl) (by kernel_rfl) (fun _ _ _ h => h) rfl ?_ (by assumption) ?_
      rotate_left
      focus (intro w hSw; go_simp; (try with_reducible rfl); done)
      try simp only [List.setIfInBounds_toArray, List.set_cons_zero, List.set_cons_succ]
      refine take_at (i := 14) (d := 36) (v := ?_) (by simp only [List.getElem?_toArray, List.getElem?_cons_succ, List.getElem?_cons_zero]; rfl) rfl (by kernel_rfl) (by kernel_rfl) (by kernel_rfl) (fun _ _ _ h => h) rfl ?_ (by assumption) ?_
      rotate_left
      focus (intro w hSw; go_simp; (try with_reducible rfl); done)
      try simp only [List.setIfInBounds_toArray, List.set_cons_zero, List.set_cons_succ]
      refine take_at (i := 15) (d := 37) (v := ?_) (by simp only [List.getElem?_toArray, List.getElem?_cons_succ, List.getElem?_cons_zero]; rfl) rfl (by kernel_rfl) (by kernel_rfl) (by kernel_rfl) (fun _ _ _ h => h) rfl ?_ (by assumption) ?_
      rotate_left
      focus (intro w hSw; go_simp; (try with_reducible rfl); done)
      try simp only [List.setIfInBounds_toArray, List.set_cons_zero, List.set_cons_succ]
      refine take_at (i := 16) (d := 38) (v := ?_) (by simp only [List.getElem?_toArray, List.getElem?_cons_succ, List.getElem?_cons_zero]; rfl) rfl (by kernel_rfl) (by kernel_rfl) (by kernel_rfl) (fun _ _ _ h => h) rfl ?_ (by assumption) ?_
      rotate_left
      focus (intro w hSw; go_simp; (try with_reducible rfl); done)
      try simp only [List.setIfInBounds_toArray, List.set_cons_zero, List.set_cons_succ]
      refine take_at (i := 17) (d := 39) (v := ?_) (by simp only [List.getElem?_toArray, List.getElem?_cons_succ, List.getElem?_cons_zero]; rfl) rfl (by kernel_rfl) (by kernel_rfl) (by kernel_rfl) (fun _ _ _ h => h) rfl ?_ (by assumption) ?_
      rotate_left
      focus (intro w hSw; go_simp; (try with_reducible rfl); done)
      try simp only [List.setIfInBounds_toArray, List.set_cons_zero, List.set_cons_succ]
      refine take_at (i := 18) (d := 40) (v := ?_) (by simp only [List.getElem?_toArray, List.getElem?_cons_succ, List.getElem?_cons_zero]; rfl) rfl (by kernel_rfl) (by kernel_rfl) (by kernel_rfl) (fun _ _ _ h => h) rfl ?_ (by assumption) ?_
      rotate_left
      focus (intro w hSw; go_simp; (try with_reducible rfl); done)
      try simp only [List.setIfInBounds_toArray, List.set_cons_zero, List.set_cons_succ]
      refine call_at (i := 19) (d := 41) (by simp only [List.getElem?_toArray, List.getElem?_cons_succ, List.getElem?_cons_zero]; rfl) rfl (by kernel_rfl) rfl (fun K hK => ?_)
      go_simp
      refine (works_any z3).mono ?_
      rintro e z4 ⟨rfl, k4⟩
      have hS4 : Kept ws z4 := hS3.below (by omega) k4
      have K4 := hide k4
      clear k4
      go_wp2_with fail
      refine hK.out _ _ hS4 (fun hSn => ?_)
      clear hK K
      try simp only [List.setIfInBounds_toArray, List.set_cons_zero, List.set_cons_succ]
      refine take_at (i := 20) (d := 42) (v := ?_) (by simp only [List.getElem?_toArray, List.getElem?_cons_succ, List.getElem?_cons_zero]; rfl) rfl (by kernel_rfl) (by kernel_rfl) (by kernel_rfl) (fun _ _ _ h => h) rfl ?_ (by assumption) ?_
      rotate_left
      focus (intro w hSw; go_simp; (try with_reducible rfl); done)
      try simp only [List.setIfInBounds_toArray, List.set_cons_zero, List.set_cons_succ]
      refine take_at (i := 21) (d := 2) (v := ?_) (by simp only [List.getElem?_toArray, List.getElem?_cons_succ, List.getElem?_cons_zero]; rfl) rfl (by kernel_rfl) (by kernel_rfl) (by kernel_rfl) (fun _ _ _ h => h) rfl ?_ (by assumption) ?_
      rotate_left
      focus (intro w hSw; go_simp; (try with_reducible rfl); done)
      try simp only [List.setIfInBounds_toArray, List.set_cons_zero, List.set_cons_succ]
      refine wpAnyH_done (by kernel_rfl) ?_ _
      clear hS0 hS1 hS2 hS3 hS4 hSn x0 x1 x2 x3 x4
      have HFin : Hid (Below w.heap.size w z4) := hide (by
    have a1 : Below ws.heap.size ws z2 := K1.out.trans (K2.out.mono s1)
    have a2 : Below ws.heap.size ws z3 := a1.trans (K3.out.mono (by omega))
    have a3 : Below ws.heap.size ws z4 := a2.trans (K4.out.mono (by omega))
    have a4 : Below u.heap.size u z4 := KU.out.trans (a3.mono su)
    exact HB.out.trans (a4.mono (by omega)))
      go_wp2
      go_ret
      exact ⟨rfl, HFin.out⟩
    · refine wp_region_held_drew (S := Kept ws) (by kernel_rfl) (Kept.drew ws) (fun hS0 => ?_)
      refine take_at (i := 0) (d := 22) (v := ?_) (by simp only [List.getElem?_toArray, List.getElem?_cons_succ, List.getElem?_cons_zero]; rfl) rfl (by kernel_rfl) (by kernel_rfl) (by kernel_rfl) (fun _ _ _ h => h) rfl ?_ (by assumption) ?_
      rotate_left
      focus (intro w hSw; go_simp; (try with_reducible rfl); done)
      try simp only [List.setIfInBounds_toArray, List.set_cons_zero, List.set_cons_succ]
      refine take_at (i := 2) (d := 24) (v := ?_) (by simp only [List.getElem?_toArray, List.getElem?_cons_succ, List.getElem?_cons_zero]; rfl) rfl (by kernel_rfl) (by kernel_rfl) (by kernel_rfl) (fun _ _ _ h => h) rfl ?_ (by assumption) ?_
      rotate_left
      focus (intro w hSw; go_simp; (try with_reducible rfl); done)
      try simp only [List.setIfInBounds_toArray, List.set_cons_zero, List.set_cons_succ]
      refine call_at (i := 1) (d := 23) (by simp only [List.getElem?_toArray, List.getElem?_cons_succ, List.getElem?_cons_zero]; rfl) rfl (by kernel_rfl) rfl (fun K hK => ?_)
      go_simp
      refine (right_any ws.drew p Ao Av Ac Ai no nv nc ni co cv cc ci HLen.out hbo (SIn.drew HIw.out)).mono ?_
      rintro e z1 ⟨rfl, k1⟩
      have hS1 : Kept ws z1 := hS0.below (by simp) k1
      have K1 := hide (below_start k1)
      have HI1 := hide (HIw.out.next K1.out)
      have s1 := K1.out.size
      clear k1
      rw [HQ.out]
      go_wp2_with fail
      refine hK.out _ _ hS1 (fun hSn => ?_)
      clear hK K
      try simp only [List.setIfInBounds_toArray, List.set_cons_zero, List.set_cons_succ]
      refine call_at (i := 3) (d := 25) (by simp only [List.getElem?_toArray, List.getElem?_cons_succ, List.getElem?_cons_zero]; rfl) rfl (by kernel_rfl) rfl (fun K hK => ?_)
      go_simp
      refine (splain_any _ p.step Ao Av Ac Ai no nv nc ni co cv cc ci).mono ?_
      rintro e z2 ⟨rfl, k2⟩
      have hS2 : Kept ws z2 := hS1.below s1 k2
      have K2 := hide k2
      have HI2 := hide (HI1.out.next k2)
      have s2 : z1.heap.size ≤ z2.heap.size := k2.size
      clear k2
      go_wp2_with fail
      refine hK.out _ _ hS2 (fun hSn => ?_)
      clear hK K
      try simp only [List.setIfInBounds_toArray, List.set_cons_zero, List.set_cons_succ]
      refine call_at (i := 4) (d := 26) (by simp only [List.getElem?_toArray, List.getElem?_cons_succ, List.getElem?_cons_zero]; rfl) rfl (by kernel_rfl) rfl (fun K hK => ?_)
      go_simp
      refine (rright_any z2 p Ao Av Ac Ai no nv nc ni co cv cc ci HLen.out hbo HI2.out).mono ?_
      rintro e z3 ⟨rfl, k3⟩
      have hS3 : Kept ws z3 := hS2.below (by omega) k3
      have K3 := hide k3
      have s3 : z2.heap.size ≤ z3.heap.size := k3.size
      clear k3
      rw [HQ.out]
      go_wp2_with fail
      refine hK.out _ _ hS3 (fun hSn => ?_)
      clear hK K
      try simp only [List.setIfInBounds_toArray, List.set_cons_zero, List.set_cons_succ]
      refine take_at (i := 5) (d := 27) (v := ?_) (by simp only [List.getElem?_toArray, List.getElem?_cons_succ, List.getElem?_cons_zero]; rfl) rfl (by kernel_rfl) (by kernel_rfl) (by kernel_rfl) (fun _ _ _ h => h) rfl ?_ (by assumption) ?_
      rotate_left
      focus (intro w hSw; go_simp; (try with_reducible rfl); done)
      try simp only [List.setIfInBounds_toArray, List.set_cons_zero, List.set_cons_succ]
      refine take_at (i := 6) (d := 28) (v := ?_) (by simp only [List.getElem?_toArray, List.getElem?_cons_succ, List.getElem?_cons_zero]; rfl) rfl (by kernel_rfl) (by kernel_rfl) (by kernel_rfl) (fun _ _ _ h => h) rfl ?_ (by assumption) ?_
      rotate_left
      focus (intro w hSw; go_simp; (try with_reducible rfl); done)
      try simp only [List.setIfInBounds_toArray, List.set_cons_zero, List.set_cons_succ]
      refine take_at (i := 7) (d := 29) (v := ?_) (by simp only [List.getElem?_toArray, List.getElem?_cons_succ, List.getElem?_cons_zero]; rfl) rfl (by kernel_rfl) (by kernel_rfl) (by kernel_rfl) (fun _ _ _ h => h) rfl ?_ (by assumption) ?_
      rotate_left
      focus (intro w hSw; go_simp; (try with_reducible rfl); done)
      try simp only [List.setIfInBounds_toArray, List.set_cons_zero, List.set_cons_succ]
      refine take_at (i := 8) (d := 30) (v := ?_) (by simp only [List.getElem?_toArray, List.getElem?_cons_succ, List.getElem?_cons_zero]; rfl) rfl (by kernel_rfl) (by kernel_rfl) (by kernel_rfl) (fun _ _ _ h => h) rfl ?_ (by assumption) ?_
      rotate_left
      focus (intro w hSw; have hh := hk1.out w hSw; go_simp; (try with_reducible rfl); done)
      try simp only [List.setIfInBounds_toArray, List.set_cons_zero, List.set_cons_succ]
      refine take_at (i := 9) (d := 31) (v := ?_) (by simp only [List.getElem?_toArray, List.getElem?_cons_succ, List.getElem?_cons_zero]; rfl) rfl (by kernel_rfl) (by kernel_rfl) (by kernel_rfl) (fun _ _ _ h => h) rfl ?_ (by assumption) ?_
      rotate_left
      focus (intro w hSw; go_simp; (try with_reducible rfl); done)
      try simp only [List.setIfInBounds_toArray, List.set_cons_zero, List.set_cons_succ]
      refine take_at (i := 10) (d := 32) (v := ?_) (by simp only [List.getElem?_toArray, List.getElem?_cons_succ, List.getElem?_cons_zero]; rfl) rfl (by kernel_rfl) (by kernel_rfl) (by kernel_rfl) (fun _ _ _ h => h) rfl ?_ (by assumption) ?_
      rotate_left
      focus (intro w hSw; have hh := hk2.out w hSw; go_simp; (try with_reducible rfl); done)
      try simp only [List.setIfInBounds_toArray, List.set_cons_zero, List.set_cons_succ]
      refine take_at (i := 11) (d := 33) (v := ?_) (by simp only [List.getElem?_toArray, List.getElem?_cons_succ, List.getElem?_cons_zero]; rfl) rfl (by kernel_rfl) (by kernel_rfl) (by kernel_rfl) (fun _ _ _ h => h) rfl ?_ (by assumption) ?_
      rotate_left
      focus (intro w hSw; go_simp; (try with_reducible rfl); done)
      try simp only [List.setIfInBounds_toArray, List.set_cons_zero, List.set_cons_succ]
      refine take_at (i := 12) (d := 34) (v := ?_) (by simp only [List.getElem?_toArray, List.getElem?_cons_succ, List.getElem?_cons_zero]; rfl) rfl (by kernel_rfl) (by kernel_rfl) (by kernel_rfl) (fun _ _ _ h => h) rfl ?_ (by assumption) ?_
      rotate_left
      focus (intro w hSw; go_simp; (try with_reducible rfl); done)
      try simp only [List.setIfInBounds_toArray, List.set_cons_zero, List.set_cons_succ]
      refine take_at (i := 13) (d := 35) (v := ?_) (by simp only [List.getElem?_toArray, List.getElem?_cons_succ, List.getElem?_cons_zero]; rfl) rfl (by kernel_rfl) (by kernel_rfl) (by kernel_rfl) (fun _ _ _ h => h) rfl ?_ (by assumption) ?_
      rotate_left
      focus (intro w hSw; go_simp; (try with_reducible rfl); done)
      try simp only [List.setIfInBounds_toArray, List.set_cons_zero, List.set_cons_succ]
      refine take_at (i := 14) (d := 36) (v := ?_) (by simp only [List.getElem?_toArray, List.getElem?_cons_succ, List.getElem?_cons_zero]; rfl) rfl (by kernel_rfl) (by kernel_rfl) (by kernel_rfl) (fun _ _ _ h => h) rfl ?_ (by assumption) ?_
      rotate_left
      focus (intro w hSw; go_simp; (try with_reducible rfl); done)
      try simp only [List.setIfInBounds_toArray, List.set_cons_zero, List.set_cons_succ]
      refine take_at (i := 15) (d := 37) (v := ?_) (by simp only [List.getElem?_toArray, List.getElem?_cons_succ, List.getElem?_cons_zero]; rfl) rfl (by kernel_rfl) (by kernel_rfl) (by kernel_rfl) (fun _ _ _ h => h) rfl ?_ (by assumption) ?_
      rotate_left
      focus (intro w hSw; go_simp; (try with_reducible rfl); done)
      try simp only [List.setIfInBounds_toArray, List.set_cons_zero, List.set_cons_succ]
      refine take_at (i := 16) (d := 38) (v := ?_) (by simp only [List.getElem?_toArray, List.getElem?_cons_succ, List.getElem?_cons_zero]; rfl) rfl (by kernel_rfl) (by kernel_rfl) (by kernel_rfl) (fun _ _ _ h => h) rfl ?_ (by assumption) ?_
      rotate_left
      focus (intro w hSw; go_simp; (try with_reducible rfl); done)
      try simp only [List.setIfInBounds_toArray, List.set_cons_zero, List.set_cons_succ]
      refine take_at (i := 17) (d := 39) (v := ?_) (by simp only [List.getElem?_toArray, List.getElem?_cons_succ, List.getElem?_cons_zero]; rfl) rfl (by kernel_rfl) (by kernel_rfl) (by kernel_rfl) (fun _ _ _ h => h) rfl ?_ (by assumption) ?_
      rotate_left
      focus (intro w hSw; go_simp; (try with_reducible rfl); done)
      try simp only [List.setIfInBounds_toArray, List.set_cons_zero, List.set_cons_succ]
      refine take_at (i := 18) (d := 40) (v := ?_) (by simp only [List.getElem?_toArray, List.getElem?_cons_succ, List.getElem?_cons_zero]; rfl) rfl (by kernel_rfl) (by kernel_rfl) (by kernel_rfl) (fun _ _ _ h => h) rfl ?_ (by assumption) ?_
      rotate_left
      focus (intro w hSw; go_simp; (try with_reducible rfl); done)
      try simp only [List.setIfInBounds_toArray, List.set_cons_zero, List.set_cons_succ]
      refine call_at (i := 19) (d := 41) (by simp only [List.getElem?_toArray, List.getElem?_cons_succ, List.getElem?_cons_zero]; rfl) rfl (by kernel_rfl) rfl (fun K hK => ?_)
      go_simp
      refine (works_any z3).mono ?_
      rintro e z4 ⟨rfl, k4⟩
      have hS4 : Kept ws z4 := hS3.below (by omega) k4
      have K4 := hide k4
      clear k4
      go_wp2_with fail
      refine hK.out _ _ hS4 (fun hSn => ?_)
      clear hK K
      try simp only [List.setIfInBounds_toArray, List.set_cons_zero, List.set_cons_succ]
      refine take_at (i := 20) (d := 42) (v := ?_) (by simp only [List.getElem?_toArray, List.getElem?_cons_succ, List.getElem?_cons_zero]; rfl) rfl (by kernel_rfl) (by kernel_rfl) (by kernel_rfl) (fun _ _ _ h => h) rfl ?_ (by assumption) ?_
      rotate_left
      focus (intro w hSw; go_simp; (try with_reducible rfl); done)
      try simp only [List.setIfInBounds_toArray, List.set_cons_zero, List.set_cons_succ]
      refine take_at (i := 21) (d := 2) (v := ?_) (by simp only [List.getElem?_toArray, List.getElem?_cons_succ, List.getElem?_cons_zero]; rfl) rfl (by kernel_rfl) (by kernel_rfl) (by kernel_rfl) (fun _ _ _ h => h) rfl ?_ (by assumption) ?_
      rotate_left
      focus (intro w hSw; go_simp; (try with_reducible rfl); done)
      try simp only [List.setIfInBounds_toArray, List.set_cons_zero, List.set_cons_succ]
      refine wpAnyH_done (by kernel_rfl) ?_ _
      clear hS0 hS1 hS2 hS3 hS4 hSn x0 x1 x2 x3 x4
      have HFin : Hid (Below w.heap.size w z4) := hide (by
    have a1 : Below ws.heap.size ws z2 := K1.out.trans (K2.out.mono s1)
    have a2 : Below ws.heap.size ws z3 := a1.trans (K3.out.mono (by omega))
    have a3 : Below ws.heap.size ws z4 := a2.trans (K4.out.mono (by omega))
    have a4 : Below u.heap.size u z4 := KU.out.trans (a3.mono su)
    exact HB.out.trans (a4.mono (by omega)))
      go_wp2
      go_ret
      exact ⟨rfl, HFin.out⟩
end Go.Proofs.Ytgfdlllmcbgbcaa

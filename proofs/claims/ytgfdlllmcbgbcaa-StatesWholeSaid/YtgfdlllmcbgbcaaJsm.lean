/- The document's Same of states, of states that are the same. (printed by gen/jsm.py) -/
import Derived.Test.YtgfdlllmcbgbcaaRsm
namespace Go.Proofs.Ytgfdlllmcbgbcaa
open Go.RowKit
set_option linter.unusedVariables false
set_option linter.unusedSimpArgs false
set_option maxRecDepth 100000 in
set_option maxHeartbeats 16000000 in
theorem rtsame_any (w : World) (st sm mo : Int) (A1 A2 A3 B1 B2 B3 : Option Addr) (n1 n2 n3 c1 c2 c3 d1 d2 d3 : Nat) (vals : List Int) (chg : List Bool) (inb inb2 : List Ml) (h1 : vals.length = n1) (h2 : chg.length = n2) (h3 : inb.length = n3) (h4 : inb2.length = n3) (b1 : n1 ≤ 9223372036854775807) (b2 : n2 ≤ 9223372036854775807) (b3 : n3 ≤ 9223372036854775807)
    (hm : eqL (inb.map nm) (inb2.map nm) = true) (ra1 : Rd w w.heap.size A1 (i64s vals)) (ra2 : Rd w w.heap.size A2 (bools chg)) (ra3 : Rd w w.heap.size A3 (mlFlat inb)) (rb1 : Rd w w.heap.size B1 (i64s vals)) (rb2 : Rd w w.heap.size B2 (bools chg)) (rb3 : Rd w w.heap.size B3 (mlFlat inb2)) :
    Calls Try.prog 25 #[.agg #[.int .i64 st, .slice A1 n1 c1, .slice A2 n2 c2, .slice A3 n3 c3, .int .i64 sm, .int .i64 mo], .agg #[.int .i64 st, .slice B1 n1 d1, .slice B2 n2 d2, .slice B3 n3 d3, .int .i64 sm, .int .i64 mo]] w fun e w' => e = .returned (.bool true) ∧ Below w.heap.size w w' := by
  obtain ⟨u, hv⟩ : ∃ v, (w.alloc (.cells #[.int .i64 st, .slice A1 n1 c1, .slice A2 n2 c2, .slice A3 n3 c3, .int .i64 sm, .int .i64 mo] 48)).alloc (.cells #[.int .i64 st, .slice B1 n1 d1, .slice B2 n2 d2, .slice B3 n3 d3, .int .i64 sm, .int .i64 mo] 48) = v := ⟨_, rfl⟩
  have hz : w.heap.size + 2 ≤ u.heap.size := by rw [← hv]; simp
  have hb : Below w.heap.size w u := by rw [← hv]; exact ((Below.refl _ _).alloc (Nat.le_refl _) _).alloc (by simp) _
  have q1 : u.heap[w.heap.size]? = some (.cells #[.int .i64 st, .slice A1 n1 c1, .slice A2 n2 c2, .slice A3 n3 c3, .int .i64 sm, .int .i64 mo] 48) := by rw [← hv]; exact (Below.heap_alloc _ _ _ (by simp)).trans (heap_alloc_last w _)
  have q2 : u.heap[w.heap.size + 1]? = some (.cells #[.int .i64 st, .slice B1 n1 d1, .slice B2 n2 d2, .slice B3 n3 d3, .int .i64 sm, .int .i64 mo] 48) := by
    rw [← hv]
    have := heap_alloc_last (w.alloc (.cells #[.int .i64 st, .slice A1 n1 c1, .slice A2 n2 c2, .slice A3 n3 c3, .int .i64 sm, .int .i64 mo] 48)) (.cells #[.int .i64 st, .slice B1 n1 d1, .slice B2 n2 d2, .slice B3 n3 d3, .int .i64 sm, .int .i64 mo] 48)
    rw [World.size_alloc] at this
    exact this
  have HB := hide hb
  have HV := hide hv
  have HM := hide hm
  have HL1 := hide h1; have HL2 := hide h2; have HL3 := hide h3; have HL4 := hide h4
  have RA1 := hide (ra1.next hb)
  have RA2 := hide (ra2.next hb)
  have RA3 := hide (ra3.next hb)
  have RB1 := hide (rb1.next hb)
  have RB2 := hide (rb2.next hb)
  have RB3 := hide (rb3.next hb)
  have X0 := hide (show u.cell? ⟨w.heap.size, 0, none⟩ = some (.int .i64 st) from cell_of_row _ _ 0 _ _ _ q1)
  have X1 := hide (show u.cell? ⟨w.heap.size, 1, none⟩ = some (.slice A1 n1 c1) from cell_of_row _ _ 1 _ _ _ q1)
  have X2 := hide (show u.cell? ⟨w.heap.size, 2, none⟩ = some (.slice A2 n2 c2) from cell_of_row _ _ 2 _ _ _ q1)
  have X3 := hide (show u.cell? ⟨w.heap.size, 3, none⟩ = some (.slice A3 n3 c3) from cell_of_row _ _ 3 _ _ _ q1)
  have X4 := hide (show u.cell? ⟨w.heap.size, 4, none⟩ = some (.int .i64 sm) from cell_of_row _ _ 4 _ _ _ q1)
  have X5 := hide (show u.cell? ⟨w.heap.size, 5, none⟩ = some (.int .i64 mo) from cell_of_row _ _ 5 _ _ _ q1)
  have Y0 := hide (show u.cell? ⟨w.heap.size + 1, 0, none⟩ = some (.int .i64 st) from cell_of_row _ _ 0 _ _ _ q2)
  have Y1 := hide (show u.cell? ⟨w.heap.size + 1, 1, none⟩ = some (.slice B1 n1 d1) from cell_of_row _ _ 1 _ _ _ q2)
  have Y2 := hide (show u.cell? ⟨w.heap.size + 1, 2, none⟩ = some (.slice B2 n2 d2) from cell_of_row _ _ 2 _ _ _ q2)
  have Y3 := hide (show u.cell? ⟨w.heap.size + 1, 3, none⟩ = some (.slice B3 n3 d3) from cell_of_row _ _ 3 _ _ _ q2)
  have Y4 := hide (show u.cell? ⟨w.heap.size + 1, 4, none⟩ = some (.int .i64 sm) from cell_of_row _ _ 4 _ _ _ q2)
  have Y5 := hide (show u.cell? ⟨w.heap.size + 1, 5, none⟩ = some (.int .i64 mo) from cell_of_row _ _ 5 _ _ _ q2)
  clear q1 q2 hb hv hm h1 h2 h3 h4 ra1 ra2 ra3 rb1 rb2 rb3
  have x0 := X0.out
  have y0 := Y0.out
  have x1 := X1.out
  have x2 := X2.out
  have x3 := X3.out
  have x4 := X4.out
  have x5 := X5.out
  have y1 := Y1.out
  have y2 := Y2.out
  have y3 := Y3.out
  have y4 := Y4.out
  have y5 := Y5.out
  go_enter Try.func25, Try.ntmps25
  go_wp2_with fail
  rw [HV.out]
  refine (rmsame_any u A3 B3 inb inb2 n3 n3 c3 d3 HL3.out HL4.out b3 RA3.out RB3.out).mono ?_
  rintro e z ⟨rfl, hz⟩
  have KU := hide hz
  have KP : Hid (Kept u z) := hide (Kept.of_below hz)
  rw [HM.out]
  clear hz x0 y0 x1 y1 x2 y2 x3 y3 x4 y4 x5 y5
  go_wp2
  go_loopw [5] (fun vi wr => ∃ i : Nat, i ≤ n1 ∧ vi = .int .i64 i ∧ Hid (Kept u wr) ∧ Hid (Below u.heap.size u wr)) (fun vi _ => n1 - (intOf vi).toNat)
  case atStart => exact ⟨0, by omega, rfl, KP, KU⟩
  case round =>
    clear KP KU
    obtain ⟨i, hi, rfl, hkr, hbr⟩ := hrel
    have xr : wr.cell? ⟨w.heap.size, 1, none⟩ = some (.slice A1 n1 c1) := (hkr.out ⟨w.heap.size, 1, none⟩ (by show w.heap.size < _; omega)).trans X1.out
    by_cases hlt : i < n1
    · have hi1 : i < vals.length := by rw [HL1.out]; exact hlt
      obtain ⟨b1, o1, hA1, l1, cx⟩ := RA1.out.at1 (i := i) (i64s_get (List.getElem?_eq_getElem hi1))
      obtain ⟨b2, o2, hA2, l2, cy⟩ := RB1.out.at1 (i := i) (i64s_get (List.getElem?_eq_getElem hi1))
      obtain ⟨x, hx⟩ : ∃ x, vals[i] = x := ⟨_, rfl⟩
      rw [hx] at cx cy
      have hI0 : (0 : Int) ≤ (i : Int) := by omega
      have hI1 : (i : Int) < (n1 : Int) := by omega
      have x1 : u.cell? ⟨w.heap.size, 1, none⟩ = some (.slice (some ⟨b1, o1, none⟩) n1 c1) := by rw [← hA1]; exact X1.out
      have y1 : u.cell? ⟨w.heap.size + 1, 1, none⟩ = some (.slice (some ⟨b2, o2, none⟩) n1 d1) := by rw [← hA2]; exact Y1.out
      have lu0 : w.heap.size < u.heap.size := by omega
      have lu1 : w.heap.size + 1 < u.heap.size := by omega
      clear hx hi1 hA1 hA2
      all_goals
        go_wp2
        refine wp_region_held_drew (S := Kept u) (by kernel_rfl) (fun p hp => hkr.out p hp) (fun hS0 => ?_)
        refine take_at (i := 0) (d := 59) (v := ?_) (by simp only [List.getElem?_toArray, List.getElem?_cons_succ, List.getElem?_cons_zero]; rfl) rfl (by kernel_rfl) (by kernel_rfl) (by kernel_rfl) (fun _ _ _ h => h) rfl ?_ (by assumption) ?_
        rotate_left
        focus (intro w hSw; go_simp; (try with_reducible rfl); done)
        try simp only [List.setIfInBounds_toArray, List.set_cons_zero, List.set_cons_succ]
        refine take_at (i := 1) (d := 60) (v := ?_) (by simp only [List.getElem?_toArray, List.getElem?_cons_succ, List.getElem?_cons_zero]; rfl) rfl (by kernel_rfl) (by kernel_rfl) (by kernel_rfl) (fun _ _ _ h => h) rfl ?_ (by assumption) ?_
        rotate_left
        focus (intro w hSw; go_simp; (try with_reducible rfl); done)
        try simp only [List.setIfInBounds_toArray, List.set_cons_zero, List.set_cons_succ]
        refine take_at (i := 2) (d := 61) (v := ?_) (by simp only [List.getElem?_toArray, List.getElem?_cons_succ, List.getElem?_cons_zero]; rfl) rfl (by kernel_rfl) (by kernel_rfl) (by kernel_rfl) (fun _ _ _ h => h) rfl ?_ (by assumption) ?_
        rotate_left
        focus (intro w hSw; go_simp; (try with_reducible rfl); done)
        try simp only [List.setIfInBounds_toArray, List.set_cons_zero, List.set_cons_succ]
        refine take_at (i := 3) (d := 62) (v := ?_) (by simp only [List.getElem?_toArray, List.getElem?_cons_succ, List.getElem?_cons_zero]; rfl) rfl (by kernel_rfl) (by kernel_rfl) (by kernel_rfl) (fun _ _ _ h => h) rfl ?_ (by assumption) ?_
        rotate_left
        focus (intro w hSw; go_simp; (try with_reducible rfl); done)
        try simp only [List.setIfInBounds_toArray, List.set_cons_zero, List.set_cons_succ]
        refine take_at (i := 4) (d := 63) (v := ?_) (by simp only [List.getElem?_toArray, List.getElem?_cons_succ, List.getElem?_cons_zero]; rfl) rfl (by kernel_rfl) (by kernel_rfl) (by kernel_rfl) (fun _ _ _ h => h) rfl ?_ (by assumption) ?_
        rotate_left
        focus (intro w hSw; go_simp; (try with_reducible rfl); done)
        try simp only [List.setIfInBounds_toArray, List.set_cons_zero, List.set_cons_succ]
        refine take_at (i := 5) (d := 64) (v := ?_) (by simp only [List.getElem?_toArray, List.getElem?_cons_succ, List.getElem?_cons_zero]; rfl) rfl (by kernel_rfl) (by kernel_rfl) (by kernel_rfl) (fun _ _ _ h => h) rfl ?_ (by assumption) ?_
        rotate_left
        focus (intro w hSw; go_simp; (try with_reducible rfl); done)
        try simp only [List.setIfInBounds_toArray, List.set_cons_zero, List.set_cons_succ]
        refine take_at (i := 6) (d := 65) (v := ?_) (by simp only [List.getElem?_toArray, List.getElem?_cons_succ, List.getElem?_cons_zero]; rfl) rfl (by kernel_rfl) (by kernel_rfl) (by kernel_rfl) (fun _ _ _ h => h) rfl ?_ (by assumption) ?_
        rotate_left
        focus (intro w hSw; go_simp; (try with_reducible rfl); done)
        try simp only [List.setIfInBounds_toArray, List.set_cons_zero, List.set_cons_succ]
        refine take_at (i := 7) (d := 66) (v := ?_) (by simp only [List.getElem?_toArray, List.getElem?_cons_succ, List.getElem?_cons_zero]; rfl) rfl (by kernel_rfl) (by kernel_rfl) (by kernel_rfl) (fun _ _ _ h => h) rfl ?_ (by assumption) ?_
        rotate_left
        focus (intro w hSw; go_simp; (try with_reducible rfl); done)
        try simp only [List.setIfInBounds_toArray, List.set_cons_zero, List.set_cons_succ]
        refine take_at (i := 8) (d := 67) (v := ?_) (by simp only [List.getElem?_toArray, List.getElem?_cons_succ, List.getElem?_cons_zero]; rfl) rfl (by kernel_rfl) (by kernel_rfl) (by kernel_rfl) (fun _ _ _ h => h) rfl ?_ (by assumption) ?_
        rotate_left
        focus (intro w hSw; go_simp; (try with_reducible rfl); done)
        try simp only [List.setIfInBounds_toArray, List.set_cons_zero, List.set_cons_succ]
        refine take_at (i := 9) (d := 68) (v := ?_) (by simp only [List.getElem?_toArray, List.getElem?_cons_succ, List.getElem?_cons_zero]; rfl) rfl (by kernel_rfl) (by kernel_rfl) (by kernel_rfl) (fun _ _ _ h => h) rfl ?_ (by assumption) ?_
        rotate_left
        focus (intro w hSw; go_simp; (try with_reducible rfl); done)
        try simp only [List.setIfInBounds_toArray, List.set_cons_zero, List.set_cons_succ]
        refine take_at (i := 10) (d := 69) (v := ?_) (by simp only [List.getElem?_toArray, List.getElem?_cons_succ, List.getElem?_cons_zero]; rfl) rfl (by kernel_rfl) (by kernel_rfl) (by kernel_rfl) (fun _ _ _ h => h) rfl ?_ (by assumption) ?_
        rotate_left
        focus (intro w hSw; go_simp; (try with_reducible rfl); done)
        try simp only [List.setIfInBounds_toArray, List.set_cons_zero, List.set_cons_succ]
        refine wpAnyH_done (by kernel_rfl) ?_ _
        clear hS0
        go_wp2
        go_roundw
        case rel => exact ⟨i + 1, by omega, by go_num, hide (fun p hp => hkr.out p hp), hide hbr.out.drew⟩
        case measure => simp [intOf]; omega
    · obtain rfl : i = n1 := by omega
      have KP := hkr
      have KU := hbr
      clear hkr hbr
      obtain ⟨w00, rfl⟩ : ∃ z : World, z = wr := ⟨_, rfl⟩
      go_wp2
      clear xr
      go_loopw [6] (fun vi wr => ∃ i : Nat, i ≤ n2 ∧ vi = .int .i64 i ∧ Hid (Kept u wr) ∧ Hid (Below u.heap.size u wr)) (fun vi _ => n2 - (intOf vi).toNat)
      case atStart => exact ⟨0, by omega, rfl, KP, KU⟩
      case round =>
        clear KP KU
        obtain ⟨i, hi, rfl, hkr, hbr⟩ := hrel
        have xr : wr.cell? ⟨w.heap.size, 2, none⟩ = some (.slice A2 n2 c2) := (hkr.out ⟨w.heap.size, 2, none⟩ (by show w.heap.size < _; omega)).trans X2.out
        by_cases hlt : i < n2
        · have hi1 : i < chg.length := by rw [HL2.out]; exact hlt
          obtain ⟨b1, o1, hA1, l1, cx⟩ := RA2.out.at1 (i := i) (bools_get? (List.getElem?_eq_getElem hi1))
          obtain ⟨b2, o2, hA2, l2, cy⟩ := RB2.out.at1 (i := i) (bools_get? (List.getElem?_eq_getElem hi1))
          obtain ⟨x, hx⟩ : ∃ x, chg[i] = x := ⟨_, rfl⟩
          rw [hx] at cx cy
          have hI0 : (0 : Int) ≤ (i : Int) := by omega
          have hI1 : (i : Int) < (n2 : Int) := by omega
          have x2 : u.cell? ⟨w.heap.size, 2, none⟩ = some (.slice (some ⟨b1, o1, none⟩) n2 c2) := by rw [← hA1]; exact X2.out
          have y2 : u.cell? ⟨w.heap.size + 1, 2, none⟩ = some (.slice (some ⟨b2, o2, none⟩) n2 d2) := by rw [← hA2]; exact Y2.out
          have lu0 : w.heap.size < u.heap.size := by omega
          have lu1 : w.heap.size + 1 < u.heap.size := by omega
          clear hx hi1 hA1 hA2
          cases x
          all_goals
            go_wp2
            refine wp_region_held_drew (S := Kept u) (by kernel_rfl) (fun p hp => hkr.out p hp) (fun hS0 => ?_)
            refine take_at (i := 0) (d := 77) (v := ?_) (by simp only [List.getElem?_toArray, List.getElem?_cons_succ, List.getElem?_cons_zero]; rfl) rfl (by kernel_rfl) (by kernel_rfl) (by kernel_rfl) (fun _ _ _ h => h) rfl ?_ (by assumption) ?_
            rotate_left
            focus (intro w hSw; go_simp; (try with_reducible rfl); done)
            try simp only [List.setIfInBounds_toArray, List.set_cons_zero, List.set_cons_succ]
            refine take_at (i := 1) (d := 78) (v := ?_) (by simp only [List.getElem?_toArray, List.getElem?_cons_succ, List.getElem?_cons_zero]; rfl) rfl (by kernel_rfl) (by kernel_rfl) (by kernel_rfl) (fun _ _ _ h => h) rfl ?_ (by assumption) ?_
            rotate_left
            focus (intro w hSw; go_simp; (try with_reducible rfl); done)
            try simp only [List.setIfInBounds_toArray, List.set_cons_zero, List.set_cons_succ]
            refine take_at (i := 2) (d := 79) (v := ?_) (by simp only [List.getElem?_toArray, List.getElem?_cons_succ, List.getElem?_cons_zero]; rfl) rfl (by kernel_rfl) (by kernel_rfl) (by kernel_rfl) (fun _ _ _ h => h) rfl ?_ (by assumption) ?_
            rotate_left
            focus (intro w hSw; go_simp; (try with_reducible rfl); done)
            try simp only [List.setIfInBounds_toArray, List.set_cons_zero, List.set_cons_succ]
            refine take_at (i := 3) (d := 80) (v := ?_) (by simp only [List.getElem?_toArray, List.getElem?_cons_succ, List.getElem?_cons_zero]; rfl) rfl (by kernel_rfl) (by kernel_rfl) (by kernel_rfl) (fun _ _ _ h => h) rfl ?_ (by assumption) ?_
            rotate_left
            focus (intro w hSw; go_simp; (try with_reducible rfl); done)
            try simp only [List.setIfInBounds_toArray, List.set_cons_zero, List.set_cons_succ]
            refine take_at (i := 4) (d := 81) (v := ?_) (by simp only [List.getElem?_toArray, List.getElem?_cons_succ, List.getElem?_cons_zero]; rfl) rfl (by kernel_rfl) (by kernel_rfl) (by kernel_rfl) (fun _ _ _ h => h) rfl ?_ (by assumption) ?_
            rotate_left
            focus (intro w hSw; go_simp; (try with_reducible rfl); done)
            try simp only [List.setIfInBounds_toArray, List.set_cons_zero, List.set_cons_succ]
            refine take_at (i := 5) (d := 82) (v := ?_) (by simp only [List.getElem?_toArray, List.getElem?_cons_succ, List.getElem?_cons_zero]; rfl) rfl (by kernel_rfl) (by kernel_rfl) (by kernel_rfl) (fun _ _ _ h => h) rfl ?_ (by assumption) ?_
            rotate_left
            focus (intro w hSw; go_simp; (try with_reducible rfl); done)
            try simp only [List.setIfInBounds_toArray, List.set_cons_zero, List.set_cons_succ]
            refine take_at (i := 6) (d := 83) (v := ?_) (by simp only [List.getElem?_toArray, List.getElem?_cons_succ, List.getElem?_cons_zero]; rfl) rfl (by kernel_rfl) (by kernel_rfl) (by kernel_rfl) (fun _ _ _ h => h) rfl ?_ (by assumption) ?_
            rotate_left
            focus (intro w hSw; go_simp; (try with_reducible rfl); done)
            try simp only [List.setIfInBounds_toArray, List.set_cons_zero, List.set_cons_succ]
            refine take_at (i := 7) (d := 84) (v := ?_) (by simp only [List.getElem?_toArray, List.getElem?_cons_succ, List.getElem?_cons_zero]; rfl) rfl (by kernel_rfl) (by kernel_rfl) (by kernel_rfl) (fun _ _ _ h => h) rfl ?_ (by assumption) ?_
            rotate_left
            focus (intro w hSw; go_simp; (try with_reducible rfl); done)
            try simp only [List.setIfInBounds_toArray, List.set_cons_zero, List.set_cons_succ]
            refine take_at (i := 8) (d := 85) (v := ?_) (by simp only [List.getElem?_toArray, List.getElem?_cons_succ, List.getElem?_cons_zero]; rfl) rfl (by kernel_rfl) (by kernel_rfl) (by kernel_rfl) (fun _ _ _ h => h) rfl ?_ (by assumption) ?_
            rotate_left
            focus (intro w hSw; go_simp; (try with_reducible rfl); done)
            try simp only [List.setIfInBounds_toArray, List.set_cons_zero, List.set_cons_succ]
            refine take_at (i := 9) (d := 86) (v := ?_) (by simp only [List.getElem?_toArray, List.getElem?_cons_succ, List.getElem?_cons_zero]; rfl) rfl (by kernel_rfl) (by kernel_rfl) (by kernel_rfl) (fun _ _ _ h => h) rfl ?_ (by assumption) ?_
            rotate_left
            focus (intro w hSw; go_simp; (try with_reducible rfl); done)
            try simp only [List.setIfInBounds_toArray, List.set_cons_zero, List.set_cons_succ]
            refine take_at (i := 10) (d := 87) (v := ?_) (by simp only [List.getElem?_toArray, List.getElem?_cons_succ, List.getElem?_cons_zero]; rfl) rfl (by kernel_rfl) (by kernel_rfl) (by kernel_rfl) (fun _ _ _ h => h) rfl ?_ (by assumption) ?_
            rotate_left
            focus (intro w hSw; go_simp; (try with_reducible rfl); done)
            try simp only [List.setIfInBounds_toArray, List.set_cons_zero, List.set_cons_succ]
            refine wpAnyH_done (by kernel_rfl) ?_ _
            clear hS0
            go_wp2
            go_roundw
            case rel => exact ⟨i + 1, by omega, by go_num, hide (fun p hp => hkr.out p hp), hide hbr.out.drew⟩
            case measure => simp [intOf]; omega
        · obtain rfl : i = n2 := by omega
          have KP := hkr
          have KU := hbr
          clear hkr hbr
          have HBf := hide (HB.out.trans (KU.out.mono HB.out.size))
          go_wp2
          go_ret
          exact ⟨rfl, HBf.out⟩
end Go.Proofs.Ytgfdlllmcbgbcaa

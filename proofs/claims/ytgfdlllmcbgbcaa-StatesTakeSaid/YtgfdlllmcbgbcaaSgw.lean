/- The walk of the statement StatesGet. (printed by gen/sgw.py) -/
import Derived.Test.YtgfdlllmcbgbcaaSwk
import Derived.Test.YtgfdlllmcbgbcaaRge
import Derived.Test.YtgfdlllmcbgbcaaRsm
import Derived.Test.YtgfdlllmcbgbcaaSpw
namespace Go.Proofs.Ytgfdlllmcbgbcaa
open Go.RowKit
set_option linter.unusedVariables false
set_option linter.unusedSimpArgs false
theorem getP_lens (bs : List UInt8) : (getP bs).vals.length = (getP bs).own.length ∧ (getP bs).chg.length = (getP bs).own.length ∧ (getP bs).inb.length = (getP bs).own.length := by
  unfold getP
  rcases h : getF bs with _ | p
  · exact ⟨rfl, rfl, rfl⟩
  · obtain ⟨m, rs, rfl⟩ : ∃ m rs, p = partOf m rs := by
      unfold getF at h
      split at h
      · cases h
      · split at h
        · split at h
          · injection h with h
            exact ⟨_, _, h.symm⟩
          · cases h
        · cases h
    simp [partOf]
theorem sameS_self (p : SPart) : sameS p p = true := by simp [sameS, eqL_self]
set_option maxRecDepth 100000 in
set_option maxHeartbeats 16000000 in
theorem statesGet_walk (w : World) (A0 : Option Addr) (bs : List UInt8) (c : Nat) (hR : Rd w w.heap.size A0 (u8s bs)) (hlm : bs.length ≤ 9223372036854775807) :
    Calls Try.prog 4 #[.slice A0 bs.length c] w fun e W' => e = .returned (.bool true) ∧ Below w.heap.size w W' := by
  obtain ⟨L, hL⟩ : ∃ L, bs.length = L := ⟨_, rfl⟩
  rw [hL] at hlm ⊢
  by_cases hl : 1200 < L
  · clear hR hL
    have hl' : (1200 : Int) < (L : Int) := by omega
    go_enter Try.func4, Try.ntmps4
    go_wp2_with fail
    refine (works_any _).mono ?_
    rintro e y2 ⟨rfl, k2⟩
    have HFin := hide k2
    clear k2
    go_wp2
    go_ret
    exact ⟨rfl, HFin.out⟩
  · have k1 := run_string_of (P := Try.prog) w 30 9 5 A0 c _ bs Try.underlying30 Try.underlying5 Try.underlying9 hR
    have k2 := run_bytes_of (P := Try.prog) w 9 30 5 bs Try.underlying9 Try.underlying30 Try.underlying5
    rw [hL] at k1 k2
    obtain ⟨cap, hcap⟩ : ∃ z, grownCap w L 0 5 = z := ⟨_, rfl⟩
    rw [hcap] at k2
    obtain ⟨wb, hwb⟩ : ∃ z, bytesWorld w 5 bs = z := ⟨_, rfl⟩
    rw [hwb] at k2
    have hwbs : wb.heap.size = w.heap.size + 1 := by rw [← hwb]; exact bytesWorld_size _ _ _
    have HBb := hide (show Below w.heap.size w wb by rw [← hwb]; exact bytesWorld_below _ _ _
        )
    have HRb := hide (show Rd wb wb.heap.size (some ⟨w.heap.size, 0, none⟩) (u8s bs) by have h := bytesWorld_rd w 5 bs; rw [hwb] at h; rw [hwbs]; exact h)
    have HR := hide hR
    have HL := hide hL
    have hwb2 : w.heap.size + 1 ≤ wb.heap.size := by omega
    have hl' : (L : Int) ≤ 1200 := by omega
    clear hcap hwb hwbs hR hL
    go_enter Try.func4, Try.ntmps4
    go_wp2_with fail
    refine (sget_any wb (some ⟨w.heap.size, 0, none⟩) bs L cap HL.out HRb.out (by omega)).mono ?_
    rintro e w1 ⟨no, nv, nc, ni, Ao1, co1, Av1, cv1, Ac1, cc1, Ai1, ci1, hsl, hno, rfl, hsi, hb1⟩
    obtain ⟨p, hp⟩ : ∃ p, getP bs = p := ⟨_, rfl⟩
    obtain ⟨q, hq⟩ : ∃ q, getE bs = q := ⟨_, rfl⟩
    rw [hp] at hsl hsi ⊢
    rw [hq]
    have HP := hide hp
    have HQ := hide hq
    have HL1 := hide hsl
    have HI0 := hide hsi
    have KB1 := hide hb1
    have hw1 := hb1.size
    have hR1 := hide (HRb.out.next hb1)
    have hlen2 : nv ≤ 1000000 ∧ nc ≤ 1000000 ∧ ni ≤ 1000000 ∨ True := .inr trivial
    clear hsl hsi hb1 hp hq k1 k2 hlen2
    go_upto_region 5 with fail
    obtain ⟨w2, hw2⟩ : ∃ z, w1.alloc (.cells #[.int .i64 p.step, .slice Ao1 no co1, .slice Av1 nv cv1, .slice Ac1 nc cc1, .slice Ai1 ni ci1] 27) = z := ⟨_, rfl⟩
    rw [hw2]
    obtain ⟨b1, hbb1⟩ : ∃ z, w1.heap.size = z := ⟨_, rfl⟩
    have hb1s : b1 < w2.heap.size := by rw [← hw2, ← hbb1]; simp
    have M1' := hide (show w2.heap[b1]? = some (.cells #[.int .i64 p.step, .slice Ao1 no co1, .slice Av1 nv cv1, .slice Ac1 nc cc1, .slice Ai1 ni ci1] 27) by rw [← hw2, ← hbb1]; exact heap_alloc_last _ _)
    have KB2 := hide (show Below w1.heap.size w1 w2 by rw [← hw2]; exact (Below.refl _ _).alloc (Nat.le_refl _) _)
    have hw12 := KB2.out.size
    rw [hbb1]
    have HBB1 := hide hbb1
    clear hw2 hbb1
    have HRr := hide (((HR.out.next HBb.out).next KB1.out).next KB2.out)
    go_wp2_with fail
    refine (rget_any w2 A0 bs L c HL.out HRr.out (by omega)).mono ?_
    rintro e w3 ⟨no', nv', nc', ni', Ao2, co2, Av2, cv2, Ac2, cc2, Ai2, ci2, hsl, hno', rfl, hsi, hb3⟩
    rw [HP.out] at hsl hsi ⊢
    rw [HQ.out]
    obtain rfl : no' = no := by have := HL1.out.1; have := hsl.1; omega
    obtain rfl : nv' = nv := by have := HL1.out.2.1; have := hsl.2.1; omega
    obtain rfl : nc' = nc := by have := HL1.out.2.2.1; have := hsl.2.2.1; omega
    obtain rfl : ni' = ni := by have := HL1.out.2.2.2; have := hsl.2.2.2; omega
    have HI3 := hide hsi
    have KB3 := hide hb3
    have hw3 := hb3.size
    have M13 := hide ((hb3.block b1 hb1s).trans M1'.out)
    clear hsl hsi hb3
    go_upto_region 6 with fail
    obtain ⟨ws, hws⟩ : ∃ z, w3.alloc (.cells #[.int .i64 p.step, .slice Ao2 no' co2, .slice Av2 nv' cv2, .slice Ac2 nc' cc2, .slice Ai2 ni' ci2] 35) = z := ⟨_, rfl⟩
    rw [hws]
    obtain ⟨b2, hbb2⟩ : ∃ z, w3.heap.size = z := ⟨_, rfl⟩
    have hb2s : b2 < ws.heap.size := by rw [← hws, ← hbb2]; simp
    have M2 : ws.heap[b2]? = some (.cells #[.int .i64 p.step, .slice Ao2 no' co2, .slice Av2 nv' cv2, .slice Ac2 nc' cc2, .slice Ai2 ni' ci2] 35) := by rw [← hws, ← hbb2]; exact heap_alloc_last _ _
    have KB4 := hide (show Below w3.heap.size w3 ws by rw [← hws]; exact (Below.refl _ _).alloc (Nat.le_refl _) _)
    have hw34 := KB4.out.size
    have M1 := (KB4.out.block b1 (by omega)).trans M13.out
    rw [hbb2]
    clear hws hbb2 M1' M13
    obtain ⟨no, rfl⟩ : ∃ z, z = no' := ⟨_, rfl⟩
    obtain ⟨nv, rfl⟩ : ∃ z, z = nv' := ⟨_, rfl⟩
    obtain ⟨nc, rfl⟩ : ∃ z, z = nc' := ⟨_, rfl⟩
    obtain ⟨ni, rfl⟩ : ∃ z, z = ni' := ⟨_, rfl⟩
    have x0 : ws.cell? ⟨b1, 0, none⟩ = some (.int .i64 p.step) := cell_of_row _ _ 0 _ _ _ M1
    have x1 : ws.cell? ⟨b1, 1, none⟩ = some (.slice Ao1 no co1) := cell_of_row _ _ 1 _ _ _ M1
    have x2 : ws.cell? ⟨b1, 2, none⟩ = some (.slice Av1 nv cv1) := cell_of_row _ _ 2 _ _ _ M1
    have x3 : ws.cell? ⟨b1, 3, none⟩ = some (.slice Ac1 nc cc1) := cell_of_row _ _ 3 _ _ _ M1
    have x4 : ws.cell? ⟨b1, 4, none⟩ = some (.slice Ai1 ni ci1) := cell_of_row _ _ 4 _ _ _ M1
    have y0 : ws.cell? ⟨b2, 0, none⟩ = some (.int .i64 p.step) := cell_of_row _ _ 0 _ _ _ M2
    have y1 : ws.cell? ⟨b2, 1, none⟩ = some (.slice Ao2 no co2) := cell_of_row _ _ 1 _ _ _ M2
    have y2 : ws.cell? ⟨b2, 2, none⟩ = some (.slice Av2 nv cv2) := cell_of_row _ _ 2 _ _ _ M2
    have y3 : ws.cell? ⟨b2, 3, none⟩ = some (.slice Ac2 nc cc2) := cell_of_row _ _ 3 _ _ _ M2
    have y4 : ws.cell? ⟨b2, 4, none⟩ = some (.slice Ai2 ni ci2) := cell_of_row _ _ 4 _ _ _ M2
    have hb1w : b1 < ws.heap.size := by omega
    have HI1 := hide (((HI0.out.next KB2.out).next KB3.out).next KB4.out)
    have HI2 := hide (HI3.out.next KB4.out)
    have hlens : Hid (nv ≤ 1000000 ∧ nc ≤ 1000000 ∧ ni ≤ 1000000) := hide (by
    have h := getP_lens bs
    rw [HP.out] at h
    have h1 := HL1.out.1
    have h2 := HL1.out.2.1
    have h3 := HL1.out.2.2.1
    have h4 := HL1.out.2.2.2
    omega)
    obtain ⟨hnv, hnc, hni⟩ := hlens.out
    clear hlens
    have hk1 := hide (str_kept (c := cap) (((hR1.out.next KB2.out).next KB3.out).next KB4.out) HL.out)
    have hk2 := hide (str_kept (c := c) ((HRr.out.next KB3.out).next KB4.out) HL.out)
    clear M1 M2 hR1 HRb HR HRr HI0 HI3
    refine wp_region_held_drew (S := Kept ws) (by kernel_rfl) (Kept.drew ws) (fun hS0 => ?_)
    refine take_at (i := 0) (d := 25) (v := ?_) (by simp only [List.getElem?_toArray, List.getElem?_cons_succ, List.getElem?_cons_zero]; rfl) rfl (by kernel_rfl) (by kernel_rfl) (by kernel_rfl) (fun _ _ _ h => h) rfl ?_ (by assumption) ?_
    rotate_left
    focus (intro w hSw; go_simp; (try with_reducible rfl); done)
    try simp only [List.setIfInBounds_toArray, List.set_cons_zero, List.set_cons_succ]
    refine take_at (i := 1) (d := 26) (v := ?_) (by simp only [List.getElem?_toArray, List.getElem?_cons_succ, List.getElem?_cons_zero]; rfl) rfl (by kernel_rfl) (by kernel_rfl) (by kernel_rfl) (fun _ _ _ h => h) rfl ?_ (by assumption) ?_
    rotate_left
    focus (intro w hSw; go_simp; (try with_reducible rfl); done)
    try simp only [List.setIfInBounds_toArray, List.set_cons_zero, List.set_cons_succ]
    refine take_at (i := 2) (d := 27) (v := ?_) (by simp only [List.getElem?_toArray, List.getElem?_cons_succ, List.getElem?_cons_zero]; rfl) rfl (by kernel_rfl) (by kernel_rfl) (by kernel_rfl) (fun _ _ _ h => h) rfl ?_ (by assumption) ?_
    rotate_left
    focus (intro w hSw; go_simp; (try with_reducible rfl); done)
    try simp only [List.setIfInBounds_toArray, List.set_cons_zero, List.set_cons_succ]
    refine take_at (i := 3) (d := 28) (v := ?_) (by simp only [List.getElem?_toArray, List.getElem?_cons_succ, List.getElem?_cons_zero]; rfl) rfl (by kernel_rfl) (by kernel_rfl) (by kernel_rfl) (fun _ _ _ h => h) rfl ?_ (by assumption) ?_
    rotate_left
    focus (intro w hSw; go_simp; (try with_reducible rfl); done)
    try simp only [List.setIfInBounds_toArray, List.set_cons_zero, List.set_cons_succ]
    refine take_at (i := 4) (d := 29) (v := ?_) (by simp only [List.getElem?_toArray, List.getElem?_cons_succ, List.getElem?_cons_zero]; rfl) rfl (by kernel_rfl) (by kernel_rfl) (by kernel_rfl) (fun _ _ _ h => h) rfl ?_ (by assumption) ?_
    rotate_left
    focus (intro w hSw; go_simp; (try with_reducible rfl); done)
    try simp only [List.setIfInBounds_toArray, List.set_cons_zero, List.set_cons_succ]
    refine take_at (i := 6) (d := 31) (v := ?_) (by simp only [List.getElem?_toArray, List.getElem?_cons_succ, List.getElem?_cons_zero]; rfl) rfl (by kernel_rfl) (by kernel_rfl) (by kernel_rfl) (fun _ _ _ h => h) rfl ?_ (by assumption) ?_
    rotate_left
    focus (intro w hSw; go_simp; (try with_reducible rfl); done)
    try simp only [List.setIfInBounds_toArray, List.set_cons_zero, List.set_cons_succ]
    refine call_at (i := 5) (d := 30) (by simp only [List.getElem?_toArray, List.getElem?_cons_succ, List.getElem?_cons_zero]; rfl) rfl (by kernel_rfl) rfl (fun K hK => ?_)
    go_simp
    refine (splain_any _ p.step Ao1 Av1 Ac1 Ai1 no nv nc ni co1 cv1 cc1 ci1).mono ?_
    rintro e z1 ⟨rfl, k1⟩
    have hS1 : Kept ws z1 := hS0.below (by simp) k1
    have K1 : Hid (Below ws.heap.size ws z1) := hide (below_start k1)
    have s1 : ws.heap.size ≤ z1.heap.size := K1.out.size
    clear k1
    go_wp2_with fail
    refine hK.out _ _ hS1 (fun hSn => ?_)
    clear hK K
    try simp only [List.setIfInBounds_toArray, List.set_cons_zero, List.set_cons_succ]
    refine call_at (i := 7) (d := 32) (by simp only [List.getElem?_toArray, List.getElem?_cons_succ, List.getElem?_cons_zero]; rfl) rfl (by kernel_rfl) rfl (fun K hK => ?_)
    go_simp
    have hcall := rssame_any z1 p Ao1 Av1 Ac1 Ai1 no nv nc ni co1 cv1 cc1 ci1 HL1.out (HI1.out.next K1.out) p Ao2 Av2 Ac2 Ai2 no nv nc ni co2 cv2 cc2 ci2 HL1.out (HI2.out.next K1.out) (by omega) (by omega) (by omega) (by omega)
    rw [sameS_self] at hcall
    refine hcall.mono ?_
    clear hcall
    rintro e z2 ⟨rfl, k2⟩
    have hS2 : Kept ws z2 := hS1.below s1 k2
    have K2 := hide k2
    have s2 : z1.heap.size ≤ z2.heap.size := k2.size
    clear k2
    go_wp2_with fail
    refine hK.out _ _ hS2 (fun hSn => ?_)
    clear hK K
    try simp only [List.setIfInBounds_toArray, List.set_cons_zero, List.set_cons_succ]
    refine take_at (i := 8) (d := 33) (v := ?_) (by simp only [List.getElem?_toArray, List.getElem?_cons_succ, List.getElem?_cons_zero]; rfl) rfl (by kernel_rfl) (by kernel_rfl) (by kernel_rfl) (fun _ _ _ h => h) rfl ?_ (by assumption) ?_
    rotate_left
    focus (intro w hSw; go_simp; (try with_reducible rfl); done)
    try simp only [List.setIfInBounds_toArray, List.set_cons_zero, List.set_cons_succ]
    refine take_at (i := 9) (d := 34) (v := ?_) (by simp only [List.getElem?_toArray, List.getElem?_cons_succ, List.getElem?_cons_zero]; rfl) rfl (by kernel_rfl) (by kernel_rfl) (by kernel_rfl) (fun _ _ _ h => h) rfl ?_ (by assumption) ?_
    rotate_left
    focus (intro w hSw; go_simp; (try with_reducible rfl); done)
    try simp only [List.setIfInBounds_toArray, List.set_cons_zero, List.set_cons_succ]
    refine take_at (i := 10) (d := 35) (v := ?_) (by simp only [List.getElem?_toArray, List.getElem?_cons_succ, List.getElem?_cons_zero]; rfl) rfl (by kernel_rfl) (by kernel_rfl) (by kernel_rfl) (fun _ _ _ h => h) rfl ?_ (by assumption) ?_
    rotate_left
    focus (intro w hSw; go_simp; (try with_reducible rfl); done)
    try simp only [List.setIfInBounds_toArray, List.set_cons_zero, List.set_cons_succ]
    refine take_at (i := 11) (d := 36) (v := ?_) (by simp only [List.getElem?_toArray, List.getElem?_cons_succ, List.getElem?_cons_zero]; rfl) rfl (by kernel_rfl) (by kernel_rfl) (by kernel_rfl) (fun _ _ _ h => h) rfl ?_ (by assumption) ?_
    rotate_left
    focus (intro w hSw; have hh := hk1.out w hSw; go_simp; (try with_reducible rfl); done)
    try simp only [List.setIfInBounds_toArray, List.set_cons_zero, List.set_cons_succ]
    refine take_at (i := 12) (d := 37) (v := ?_) (by simp only [List.getElem?_toArray, List.getElem?_cons_succ, List.getElem?_cons_zero]; rfl) rfl (by kernel_rfl) (by kernel_rfl) (by kernel_rfl) (fun _ _ _ h => h) rfl ?_ (by assumption) ?_
    rotate_left
    focus (intro w hSw; go_simp; (try with_reducible rfl); done)
    try simp only [List.setIfInBounds_toArray, List.set_cons_zero, List.set_cons_succ]
    refine take_at (i := 13) (d := 38) (v := ?_) (by simp only [List.getElem?_toArray, List.getElem?_cons_succ, List.getElem?_cons_zero]; rfl) rfl (by kernel_rfl) (by kernel_rfl) (by kernel_rfl) (fun _ _ _ h => h) rfl ?_ (by assumption) ?_
    rotate_left
    focus (intro w hSw; have hh := hk2.out w hSw; go_simp; (try with_reducible rfl); done)
    try simp only [List.setIfInBounds_toArray, List.set_cons_zero, List.set_cons_succ]
    refine take_at (i := 14) (d := 39) (v := ?_) (by simp only [List.getElem?_toArray, List.getElem?_cons_succ, List.getElem?_cons_zero]; rfl) rfl (by kernel_rfl) (by kernel_rfl) (by kernel_rfl) (fun _ _ _ h => h) rfl ?_ (by assumption) ?_
    rotate_left
    focus (intro w hSw; go_simp; (try with_reducible rfl); done)
    try simp only [List.setIfInBounds_toArray, List.set_cons_zero, List.set_cons_succ]
    refine take_at (i := 15) (d := 40) (v := ?_) (by simp only [List.getElem?_toArray, List.getElem?_cons_succ, List.getElem?_cons_zero]; rfl) rfl (by kernel_rfl) (by kernel_rfl) (by kernel_rfl) (fun _ _ _ h => h) rfl ?_ (by assumption) ?_
    rotate_left
    focus (intro w hSw; go_simp; (try with_reducible rfl); done)
    try simp only [List.setIfInBounds_toArray, List.set_cons_zero, List.set_cons_succ]
    refine take_at (i := 16) (d := 41) (v := ?_) (by simp only [List.getElem?_toArray, List.getElem?_cons_succ, List.getElem?_cons_zero]; rfl) rfl (by kernel_rfl) (by kernel_rfl) (by kernel_rfl) (fun _ _ _ h => h) rfl ?_ (by assumption) ?_
    rotate_left
    focus (intro w hSw; go_simp; (try with_reducible rfl); done)
    try simp only [List.setIfInBounds_toArray, List.set_cons_zero, List.set_cons_succ]
    refine call_at (i := 17) (d := 42) (by simp only [List.getElem?_toArray, List.getElem?_cons_succ, List.getElem?_cons_zero]; rfl) rfl (by kernel_rfl) rfl (fun K hK => ?_)
    go_simp
    refine (works_any z2).mono ?_
    rintro e z3 ⟨rfl, k3⟩
    have hS3 : Kept ws z3 := hS2.below (by omega) k3
    have K3 := hide k3
    clear k3
    go_wp2_with fail
    refine hK.out _ _ hS3 (fun hSn => ?_)
    clear hK K
    try simp only [List.setIfInBounds_toArray, List.set_cons_zero, List.set_cons_succ]
    refine take_at (i := 18) (d := 43) (v := ?_) (by simp only [List.getElem?_toArray, List.getElem?_cons_succ, List.getElem?_cons_zero]; rfl) rfl (by kernel_rfl) (by kernel_rfl) (by kernel_rfl) (fun _ _ _ h => h) rfl ?_ (by assumption) ?_
    rotate_left
    focus (intro w hSw; go_simp; (try with_reducible rfl); done)
    try simp only [List.setIfInBounds_toArray, List.set_cons_zero, List.set_cons_succ]
    refine take_at (i := 19) (d := 2) (v := ?_) (by simp only [List.getElem?_toArray, List.getElem?_cons_succ, List.getElem?_cons_zero]; rfl) rfl (by kernel_rfl) (by kernel_rfl) (by kernel_rfl) (fun _ _ _ h => h) rfl ?_ (by assumption) ?_
    rotate_left
    focus (intro w hSw; go_simp; (try with_reducible rfl); done)
    try simp only [List.setIfInBounds_toArray, List.set_cons_zero, List.set_cons_succ]
    refine wpAnyH_done (by kernel_rfl) ?_ _
    clear hS0 hS1 hS2 hS3 hSn x0 y0 x1 y1 x2 y2 x3 y3 x4 y4
    have HFin : Hid (Below w.heap.size w z3) := hide (by
    have a1 : Below w.heap.size w w1 := HBb.out.trans (KB1.out.mono (by omega))
    have a2 : Below w.heap.size w w2 := a1.trans (KB2.out.mono (by omega))
    have a3 : Below w.heap.size w w3 := a2.trans (KB3.out.mono (by omega))
    have a4 : Below w.heap.size w ws := a3.trans (KB4.out.mono (by omega))
    have a5 : Below w.heap.size w z1 := a4.trans (K1.out.mono (by omega))
    have a6 : Below w.heap.size w z2 := a5.trans (K2.out.mono (by omega))
    exact a6.trans (K3.out.mono (by omega)))
    go_wp2
    go_ret
    exact ⟨rfl, HFin.out⟩
end Go.Proofs.Ytgfdlllmcbgbcaa

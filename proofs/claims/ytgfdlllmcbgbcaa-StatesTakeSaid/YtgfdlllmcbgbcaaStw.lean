/- The walk of the statement StatesTake. (printed by gen/stw.py) -/
import Derived.Test.YtgfdlllmcbgbcaaSwk
import Derived.Test.YtgfdlllmcbgbcaaStk
import Derived.Test.YtgfdlllmcbgbcaaRsm
import Derived.Test.YtgfdlllmcbgbcaaSgw
namespace Go.Proofs.Ytgfdlllmcbgbcaa
open Go.RowKit
set_option linter.unusedVariables false
set_option linter.unusedSimpArgs false
theorem takeP_lens (st : Int) (vals : List Int) (chg : List Bool) (inb : List Ml) (n k : Int) : (takeP st vals chg inb n k).vals.length = (takeP st vals chg inb n k).own.length ∧ (takeP st vals chg inb n k).chg.length = (takeP st vals chg inb n k).own.length ∧ (takeP st vals chg inb n k).inb.length = (takeP st vals chg inb n k).own.length := by
  unfold takeP
  split <;> simp [pickP, pv, pc, pm]
set_option maxRecDepth 100000 in
set_option maxHeartbeats 16000000 in
theorem statesTake_go (w : World) (st sm mo : Int) (A1 A2 A3 : Option Addr) (V n2 n3 c1 c2 c3 : Nat) (vals : List Int) (chg : List Bool) (inb : List Ml) (n k : Int) (hv : vals.length = V) (hc : chg.length = n2) (hi : inb.length = n3)
    (r1 : Rd w w.heap.size A1 (i64s vals)) (r2 : Rd w w.heap.size A2 (bools chg)) (r3 : Rd w w.heap.size A3 (mlFlat inb)) (bV : V ≤ 9223372036854775807) (b2 : n2 ≤ 9223372036854775807) (b3 : n3 ≤ 9223372036854775807) :
    Calls Try.prog 6 #[.agg #[.int .i64 st, .slice A1 V c1, .slice A2 n2 c2, .slice A3 n3 c3, .int .i64 sm, .int .i64 mo], .int .i64 n, .int .i64 k] w fun e W' => e = .returned (.bool true) ∧ Below w.heap.size w W' := by
  obtain ⟨u, hu⟩ : ∃ u, w.alloc (.cells #[.int .i64 st, .slice A1 V c1, .slice A2 n2 c2, .slice A3 n3 c3, .int .i64 sm, .int .i64 mo] 48) = u := ⟨_, rfl⟩
  have hzu : w.heap.size < u.heap.size := by rw [← hu]; simp
  have HBU := hide (show Below w.heap.size w u by rw [← hu]; exact (Below.refl _ _).alloc (Nat.le_refl _) _)
  have M0 := hide (show u.heap[w.heap.size]? = some (.cells #[.int .i64 st, .slice A1 V c1, .slice A2 n2 c2, .slice A3 n3 c3, .int .i64 sm, .int .i64 mo] 48) by rw [← hu]; exact heap_alloc_last _ _)
  have HU := hide hu
  have R1 := hide (r1.next HBU.out)
  have R2 := hide (r2.next HBU.out)
  have R3 := hide (r3.next HBU.out)
  have HV := hide hv
  have HC := hide hc
  have HI := hide hi
  clear hu r1 r2 r3 hv hc hi
  by_cases g1 : 60 < V
  · have g1' : (60 : Int) < (V : Int) := by omega
    have N0 := M0.out
    have x0 : u.cell? ⟨w.heap.size, 0, none⟩ = some (.int .i64 st) := cell_of_row _ _ 0 _ _ _ N0
    have x1 : u.cell? ⟨w.heap.size, 1, none⟩ = some (.slice A1 V c1) := cell_of_row _ _ 1 _ _ _ N0
    have x2 : u.cell? ⟨w.heap.size, 2, none⟩ = some (.slice A2 n2 c2) := cell_of_row _ _ 2 _ _ _ N0
    have x3 : u.cell? ⟨w.heap.size, 3, none⟩ = some (.slice A3 n3 c3) := cell_of_row _ _ 3 _ _ _ N0
    have x4 : u.cell? ⟨w.heap.size, 4, none⟩ = some (.int .i64 sm) := cell_of_row _ _ 4 _ _ _ N0
    have x5 : u.cell? ⟨w.heap.size, 5, none⟩ = some (.int .i64 mo) := cell_of_row _ _ 5 _ _ _ N0
    clear N0
    go_enter Try.func6, Try.ntmps6
    go_upto_region 1 with fail
    rw [HU.out]
    go_wp2_with fail
    refine (works_any _).mono ?_
    rintro e w2 ⟨rfl, hb⟩
    have HF := hide (HBU.out.trans (hb.mono (by omega)))
    clear hb
    go_wp2
    go_ret
    exact ⟨rfl, HF.out⟩
  by_cases g2 : 60 < n2
  · have g1' : ¬ (60 : Int) < (V : Int) := by omega
    have g2' : (60 : Int) < (n2 : Int) := by omega
    have N0 := M0.out
    have x0 : u.cell? ⟨w.heap.size, 0, none⟩ = some (.int .i64 st) := cell_of_row _ _ 0 _ _ _ N0
    have x1 : u.cell? ⟨w.heap.size, 1, none⟩ = some (.slice A1 V c1) := cell_of_row _ _ 1 _ _ _ N0
    have x2 : u.cell? ⟨w.heap.size, 2, none⟩ = some (.slice A2 n2 c2) := cell_of_row _ _ 2 _ _ _ N0
    have x3 : u.cell? ⟨w.heap.size, 3, none⟩ = some (.slice A3 n3 c3) := cell_of_row _ _ 3 _ _ _ N0
    have x4 : u.cell? ⟨w.heap.size, 4, none⟩ = some (.int .i64 sm) := cell_of_row _ _ 4 _ _ _ N0
    have x5 : u.cell? ⟨w.heap.size, 5, none⟩ = some (.int .i64 mo) := cell_of_row _ _ 5 _ _ _ N0
    clear N0
    go_enter Try.func6, Try.ntmps6
    go_upto_region 1 with fail
    rw [HU.out]
    go_wp2_with fail
    refine (works_any _).mono ?_
    rintro e w2 ⟨rfl, hb⟩
    have HF := hide (HBU.out.trans (hb.mono (by omega)))
    clear hb
    go_wp2
    go_ret
    exact ⟨rfl, HF.out⟩
  by_cases g3 : 60 < n3
  · have g1' : ¬ (60 : Int) < (V : Int) := by omega
    have g2' : ¬ (60 : Int) < (n2 : Int) := by omega
    have g3' : (60 : Int) < (n3 : Int) := by omega
    have N0 := M0.out
    have x0 : u.cell? ⟨w.heap.size, 0, none⟩ = some (.int .i64 st) := cell_of_row _ _ 0 _ _ _ N0
    have x1 : u.cell? ⟨w.heap.size, 1, none⟩ = some (.slice A1 V c1) := cell_of_row _ _ 1 _ _ _ N0
    have x2 : u.cell? ⟨w.heap.size, 2, none⟩ = some (.slice A2 n2 c2) := cell_of_row _ _ 2 _ _ _ N0
    have x3 : u.cell? ⟨w.heap.size, 3, none⟩ = some (.slice A3 n3 c3) := cell_of_row _ _ 3 _ _ _ N0
    have x4 : u.cell? ⟨w.heap.size, 4, none⟩ = some (.int .i64 sm) := cell_of_row _ _ 4 _ _ _ N0
    have x5 : u.cell? ⟨w.heap.size, 5, none⟩ = some (.int .i64 mo) := cell_of_row _ _ 5 _ _ _ N0
    clear N0
    go_enter Try.func6, Try.ntmps6
    go_upto_region 1 with fail
    rw [HU.out]
    go_wp2_with fail
    refine (works_any _).mono ?_
    rintro e w2 ⟨rfl, hb⟩
    have HF := hide (HBU.out.trans (hb.mono (by omega)))
    clear hb
    go_wp2
    go_ret
    exact ⟨rfl, HF.out⟩
  have g1' : ¬ (60 : Int) < (V : Int) := by omega
  have g2' : ¬ (60 : Int) < (n2 : Int) := by omega
  have g3' : ¬ (60 : Int) < (n3 : Int) := by omega
  obtain ⟨p, hp⟩ : ∃ p, takeP st vals chg inb n k = p := ⟨_, rfl⟩
  obtain ⟨q, hq⟩ : ∃ q, takeE st vals chg inb n k = q := ⟨_, rfl⟩
  have hlen := takeP_lens st vals chg inb n k
  rw [hp] at hlen
  have HLEN := hide hlen
  have HP := hide hp
  have HQ := hide hq
  clear hp hq hlen
  have N0 := M0.out
  have x0 : u.cell? ⟨w.heap.size, 0, none⟩ = some (.int .i64 st) := cell_of_row _ _ 0 _ _ _ N0
  have x1 : u.cell? ⟨w.heap.size, 1, none⟩ = some (.slice A1 V c1) := cell_of_row _ _ 1 _ _ _ N0
  have x2 : u.cell? ⟨w.heap.size, 2, none⟩ = some (.slice A2 n2 c2) := cell_of_row _ _ 2 _ _ _ N0
  have x3 : u.cell? ⟨w.heap.size, 3, none⟩ = some (.slice A3 n3 c3) := cell_of_row _ _ 3 _ _ _ N0
  have x4 : u.cell? ⟨w.heap.size, 4, none⟩ = some (.int .i64 sm) := cell_of_row _ _ 4 _ _ _ N0
  have x5 : u.cell? ⟨w.heap.size, 5, none⟩ = some (.int .i64 mo) := cell_of_row _ _ 5 _ _ _ N0
  clear N0
  go_enter Try.func6, Try.ntmps6
  go_upto_region 1 with fail
  rw [HU.out]
  go_wp2_with fail
  have hcl := stake_any u st sm mo A1 A2 A3 V n2 n3 c1 c2 c3 vals chg inb n k (by omega) HV.out HC.out HI.out R1.out R2.out R3.out
  rw [HP.out, HQ.out] at hcl
  refine hcl.mono ?_
  clear hcl
  rintro e w1 ⟨no, nv, nc, ni, Ao1, co1, Av1, cv1, Ac1, cc1, Ai1, ci1, hsl, hno, rfl, hsi, hb1⟩
  have HL1 := hide hsl
  have HI0 := hide hsi
  have KB1 := hide hb1
  have hw1 : u.heap.size ≤ w1.heap.size := hb1.size
  have M01 := hide ((hb1.block _ hzu).trans M0.out)
  clear hsl hsi hb1 x0 x1 x2 x3 x4 x5
  go_upto_region 4 with fail
  obtain ⟨w2, hw2⟩ : ∃ z, w1.alloc (.cells #[.int .i64 p.step, .slice Ao1 no co1, .slice Av1 nv cv1, .slice Ac1 nc cc1, .slice Ai1 ni ci1] 27) = z := ⟨_, rfl⟩
  rw [hw2]
  obtain ⟨b1, hbb1⟩ : ∃ z, w1.heap.size = z := ⟨_, rfl⟩
  have hb1s : b1 < w2.heap.size := by rw [← hw2, ← hbb1]; simp
  have M1' := hide (show w2.heap[b1]? = some (.cells #[.int .i64 p.step, .slice Ao1 no co1, .slice Av1 nv cv1, .slice Ac1 nc cc1, .slice Ai1 ni ci1] 27) by rw [← hw2, ← hbb1]; exact heap_alloc_last _ _)
  have KB2 := hide (show Below w1.heap.size w1 w2 by rw [← hw2]; exact (Below.refl _ _).alloc (Nat.le_refl _) _)
  have hw12 := KB2.out.size
  have M02 := hide ((KB2.out.block _ (by omega)).trans M01.out)
  rw [hbb1]
  have HBB1 := hide hbb1
  clear hw2 hbb1
  have N0 := M02.out
  have x0 : w2.cell? ⟨w.heap.size, 0, none⟩ = some (.int .i64 st) := cell_of_row _ _ 0 _ _ _ N0
  have x1 : w2.cell? ⟨w.heap.size, 1, none⟩ = some (.slice A1 V c1) := cell_of_row _ _ 1 _ _ _ N0
  have x2 : w2.cell? ⟨w.heap.size, 2, none⟩ = some (.slice A2 n2 c2) := cell_of_row _ _ 2 _ _ _ N0
  have x3 : w2.cell? ⟨w.heap.size, 3, none⟩ = some (.slice A3 n3 c3) := cell_of_row _ _ 3 _ _ _ N0
  have x4 : w2.cell? ⟨w.heap.size, 4, none⟩ = some (.int .i64 sm) := cell_of_row _ _ 4 _ _ _ N0
  have x5 : w2.cell? ⟨w.heap.size, 5, none⟩ = some (.int .i64 mo) := cell_of_row _ _ 5 _ _ _ N0
  clear N0
  go_wp2_with fail
  have hcl := rtake14_any w2 st sm mo A1 A2 A3 V n2 n3 c1 c2 c3 vals chg inb n k (by omega) HV.out HC.out HI.out ((R1.out.next KB1.out).next KB2.out) ((R2.out.next KB1.out).next KB2.out) ((R3.out.next KB1.out).next KB2.out)
  rw [HP.out, HQ.out] at hcl
  refine hcl.mono ?_
  clear hcl
  rintro e w3 ⟨no', nv', nc', ni', Ao2, co2, Av2, cv2, Ac2, cc2, Ai2, ci2, hsl, hno', rfl, hsi, hb3⟩
  obtain rfl : no' = no := by have := HL1.out.1; have := hsl.1; omega
  obtain rfl : nv' = nv := by have := HL1.out.2.1; have := hsl.2.1; omega
  obtain rfl : nc' = nc := by have := HL1.out.2.2.1; have := hsl.2.2.1; omega
  obtain rfl : ni' = ni := by have := HL1.out.2.2.2; have := hsl.2.2.2; omega
  have HI3 := hide hsi
  have KB3 := hide hb3
  have hw3 := hb3.size
  have M13 := hide ((hb3.block b1 hb1s).trans M1'.out)
  clear hsl hsi hb3 x0 x1 x2 x3 x4 x5
  go_upto_region 5 with fail
  obtain ⟨ws, hws⟩ : ∃ z, w3.alloc (.cells #[.int .i64 p.step, .slice Ao2 no' co2, .slice Av2 nv' cv2, .slice Ac2 nc' cc2, .slice Ai2 ni' ci2] 35) = z := ⟨_, rfl⟩
  rw [hws]
  obtain ⟨b2, hbb2⟩ : ∃ z, w3.heap.size = z := ⟨_, rfl⟩
  have hb2s : b2 < ws.heap.size := by rw [← hws, ← hbb2]; simp
  have M2 : ws.heap[b2]? = some (.cells #[.int .i64 p.step, .slice Ao2 no' co2, .slice Av2 nv' cv2, .slice Ac2 nc' cc2, .slice Ai2 ni' ci2] 35) := by rw [← hws, ← hbb2]; exact heap_alloc_last _ _
  have KB4 := hide (show Below w3.heap.size w3 ws by rw [← hws]; exact (Below.refl _ _).alloc (Nat.le_refl _) _)
  have hw34 := KB4.out.size
  have M1 := (KB4.out.block b1 (by omega)).trans M13.out
  rw [hbb2]
  clear hws hbb2 M1' M13
  obtain ⟨no, rfl⟩ : ∃ z, z = no' := ⟨_, rfl⟩
  obtain ⟨nv, rfl⟩ : ∃ z, z = nv' := ⟨_, rfl⟩
  obtain ⟨nc, rfl⟩ : ∃ z, z = nc' := ⟨_, rfl⟩
  obtain ⟨ni, rfl⟩ : ∃ z, z = ni' := ⟨_, rfl⟩
  have s0 : ws.cell? ⟨b1, 0, none⟩ = some (.int .i64 p.step) := cell_of_row _ _ 0 _ _ _ M1
  have s1 : ws.cell? ⟨b1, 1, none⟩ = some (.slice Ao1 no co1) := cell_of_row _ _ 1 _ _ _ M1
  have s2 : ws.cell? ⟨b1, 2, none⟩ = some (.slice Av1 nv cv1) := cell_of_row _ _ 2 _ _ _ M1
  have s3 : ws.cell? ⟨b1, 3, none⟩ = some (.slice Ac1 nc cc1) := cell_of_row _ _ 3 _ _ _ M1
  have s4 : ws.cell? ⟨b1, 4, none⟩ = some (.slice Ai1 ni ci1) := cell_of_row _ _ 4 _ _ _ M1
  have t0 : ws.cell? ⟨b2, 0, none⟩ = some (.int .i64 p.step) := cell_of_row _ _ 0 _ _ _ M2
  have t1 : ws.cell? ⟨b2, 1, none⟩ = some (.slice Ao2 no co2) := cell_of_row _ _ 1 _ _ _ M2
  have t2 : ws.cell? ⟨b2, 2, none⟩ = some (.slice Av2 nv cv2) := cell_of_row _ _ 2 _ _ _ M2
  have t3 : ws.cell? ⟨b2, 3, none⟩ = some (.slice Ac2 nc cc2) := cell_of_row _ _ 3 _ _ _ M2
  have t4 : ws.cell? ⟨b2, 4, none⟩ = some (.slice Ai2 ni ci2) := cell_of_row _ _ 4 _ _ _ M2
  have hb1w : b1 < ws.heap.size := by omega
  have HI1 := hide (((HI0.out.next KB2.out).next KB3.out).next KB4.out)
  have HI2 := hide (HI3.out.next KB4.out)
  have hlens : Hid (nv ≤ 1000000 ∧ nc ≤ 1000000 ∧ ni ≤ 1000000) := hide (by
    have h := HLEN.out
    have h1 := HL1.out.1
    have h2 := HL1.out.2.1
    have h3 := HL1.out.2.2.1
    have h4 := HL1.out.2.2.2
    omega)
  obtain ⟨hnv, hnc, hni⟩ := hlens.out
  clear hlens M1 M2 HI0 HI3
  refine wp_region_held_drew (S := Kept ws) (by kernel_rfl) (Kept.drew ws) (fun hS0 => ?_)
  refine take_at (i := 0) (d := 42) (v := ?_) (by simp only [List.getElem?_toArray, List.getElem?_cons_succ, List.getElem?_cons_zero]; rfl) rfl (by kernel_rfl) (by kernel_rfl) (by kernel_rfl) (fun _ _ _ h => h) rfl ?_ (by assumption) ?_
  rotate_left
  focus (intro w hSw; go_simp; (try with_reducible rfl); done)
  try simp only [List.setIfInBounds_toArray, List.set_cons_zero, List.set_cons_succ]
  refine take_at (i := 1) (d := 43) (v := ?_) (by simp only [List.getElem?_toArray, List.getElem?_cons_succ, List.getElem?_cons_zero]; rfl) rfl (by kernel_rfl) (by kernel_rfl) (by kernel_rfl) (fun _ _ _ h => h) rfl ?_ (by assumption) ?_
  rotate_left
  focus (intro w hSw; go_simp; (try with_reducible rfl); done)
  try simp only [List.setIfInBounds_toArray, List.set_cons_zero, List.set_cons_succ]
  refine take_at (i := 2) (d := 44) (v := ?_) (by simp only [List.getElem?_toArray, List.getElem?_cons_succ, List.getElem?_cons_zero]; rfl) rfl (by kernel_rfl) (by kernel_rfl) (by kernel_rfl) (fun _ _ _ h => h) rfl ?_ (by assumption) ?_
  rotate_left
  focus (intro w hSw; go_simp; (try with_reducible rfl); done)
  try simp only [List.setIfInBounds_toArray, List.set_cons_zero, List.set_cons_succ]
  refine take_at (i := 3) (d := 45) (v := ?_) (by simp only [List.getElem?_toArray, List.getElem?_cons_succ, List.getElem?_cons_zero]; rfl) rfl (by kernel_rfl) (by kernel_rfl) (by kernel_rfl) (fun _ _ _ h => h) rfl ?_ (by assumption) ?_
  rotate_left
  focus (intro w hSw; go_simp; (try with_reducible rfl); done)
  try simp only [List.setIfInBounds_toArray, List.set_cons_zero, List.set_cons_succ]
  refine take_at (i := 4) (d := 46) (v := ?_) (by simp only [List.getElem?_toArray, List.getElem?_cons_succ, List.getElem?_cons_zero]; rfl) rfl (by kernel_rfl) (by kernel_rfl) (by kernel_rfl) (fun _ _ _ h => h) rfl ?_ (by assumption) ?_
  rotate_left
  focus (intro w hSw; go_simp; (try with_reducible rfl); done)
  try simp only [List.setIfInBounds_toArray, List.set_cons_zero, List.set_cons_succ]
  refine take_at (i := 6) (d := 48) (v := ?_) (by simp only [List.getElem?_toArray, List.getElem?_cons_succ, List.getElem?_cons_zero]; rfl) rfl (by kernel_rfl) (by kernel_rfl) (by kernel_rfl) (fun _ _ _ h => h) rfl ?_ (by assumption) ?_
  rotate_left
  focus (intro w hSw; go_simp; (try with_reducible rfl); done)
  try simp only [List.setIfInBounds_toArray, List.set_cons_zero, List.set_cons_succ]
  refine call_at (i := 5) (d := 47) (by simp only [List.getElem?_toArray, List.getElem?_cons_succ, List.getElem?_cons_zero]; rfl) rfl (by kernel_rfl) rfl (fun K hK => ?_)
  go_simp
  refine (splain_any _ p.step Ao1 Av1 Ac1 Ai1 no nv nc ni co1 cv1 cc1 ci1).mono ?_
  rintro e z1 ⟨rfl, k1⟩
  have hS1 : Kept ws z1 := hS0.below (by simp) k1
  have K1 : Hid (Below ws.heap.size ws z1) := hide (below_start k1)
  have r1s : ws.heap.size ≤ z1.heap.size := K1.out.size
  clear k1
  go_wp2_with fail
  refine hK.out _ _ hS1 (fun hSn => ?_)
  clear hK K
  try simp only [List.setIfInBounds_toArray, List.set_cons_zero, List.set_cons_succ]
  refine call_at (i := 7) (d := 49) (by simp only [List.getElem?_toArray, List.getElem?_cons_succ, List.getElem?_cons_zero]; rfl) rfl (by kernel_rfl) rfl (fun K hK => ?_)
  go_simp
  have hcall := rssame_any z1 p Ao1 Av1 Ac1 Ai1 no nv nc ni co1 cv1 cc1 ci1 HL1.out (HI1.out.next K1.out) p Ao2 Av2 Ac2 Ai2 no nv nc ni co2 cv2 cc2 ci2 HL1.out (HI2.out.next K1.out) (by omega) (by omega) (by omega) (by omega)
  rw [sameS_self] at hcall
  refine hcall.mono ?_
  clear hcall
  rintro e z2 ⟨rfl, k2⟩
  have hS2 : Kept ws z2 := hS1.below r1s k2
  have K2 := hide k2
  have r2s : z1.heap.size ≤ z2.heap.size := k2.size
  clear k2
  go_wp2_with fail
  refine hK.out _ _ hS2 (fun hSn => ?_)
  clear hK K
  try simp only [List.setIfInBounds_toArray, List.set_cons_zero, List.set_cons_succ]
  refine take_at (i := 8) (d := 50) (v := ?_) (by simp only [List.getElem?_toArray, List.getElem?_cons_succ, List.getElem?_cons_zero]; rfl) rfl (by kernel_rfl) (by kernel_rfl) (by kernel_rfl) (fun _ _ _ h => h) rfl ?_ (by assumption) ?_
  rotate_left
  focus (intro w hSw; go_simp; (try with_reducible rfl); done)
  try simp only [List.setIfInBounds_toArray, List.set_cons_zero, List.set_cons_succ]
  refine take_at (i := 9) (d := 51) (v := ?_) (by simp only [List.getElem?_toArray, List.getElem?_cons_succ, List.getElem?_cons_zero]; rfl) rfl (by kernel_rfl) (by kernel_rfl) (by kernel_rfl) (fun _ _ _ h => h) rfl ?_ (by assumption) ?_
  rotate_left
  focus (intro w hSw; go_simp; (try with_reducible rfl); done)
  try simp only [List.setIfInBounds_toArray, List.set_cons_zero, List.set_cons_succ]
  refine call_at (i := 10) (d := 52) (by simp only [List.getElem?_toArray, List.getElem?_cons_succ, List.getElem?_cons_zero]; rfl) rfl (by kernel_rfl) rfl (fun K hK => ?_)
  go_simp
  refine (works_any z2).mono ?_
  rintro e z3 ⟨rfl, k3⟩
  have hS3 : Kept ws z3 := hS2.below (by omega) k3
  have K3 := hide k3
  clear k3
  go_wp2_with fail
  refine hK.out _ _ hS3 (fun hSn => ?_)
  clear hK K
  try simp only [List.setIfInBounds_toArray, List.set_cons_zero, List.set_cons_succ]
  refine take_at (i := 11) (d := 53) (v := ?_) (by simp only [List.getElem?_toArray, List.getElem?_cons_succ, List.getElem?_cons_zero]; rfl) rfl (by kernel_rfl) (by kernel_rfl) (by kernel_rfl) (fun _ _ _ h => h) rfl ?_ (by assumption) ?_
  rotate_left
  focus (intro w hSw; go_simp; (try with_reducible rfl); done)
  try simp only [List.setIfInBounds_toArray, List.set_cons_zero, List.set_cons_succ]
  refine take_at (i := 12) (d := 6) (v := ?_) (by simp only [List.getElem?_toArray, List.getElem?_cons_succ, List.getElem?_cons_zero]; rfl) rfl (by kernel_rfl) (by kernel_rfl) (by kernel_rfl) (fun _ _ _ h => h) rfl ?_ (by assumption) ?_
  rotate_left
  focus (intro w hSw; go_simp; (try with_reducible rfl); done)
  try simp only [List.setIfInBounds_toArray, List.set_cons_zero, List.set_cons_succ]
  refine wpAnyH_done (by kernel_rfl) ?_ _
  clear hS0 hS1 hS2 hS3 hSn s0 s3 s4 t0 t1 t2 t3 t4
  have HFin : Hid (Below w.heap.size w z3) := hide (by
    have a1 : Below w.heap.size w w1 := HBU.out.trans (KB1.out.mono (by omega))
    have a2 : Below w.heap.size w w2 := a1.trans (KB2.out.mono (by omega))
    have a3 : Below w.heap.size w w3 := a2.trans (KB3.out.mono (by omega))
    have a4 : Below w.heap.size w ws := a3.trans (KB4.out.mono (by omega))
    have a5 : Below w.heap.size w z1 := a4.trans (K1.out.mono (by omega))
    have a6 : Below w.heap.size w z2 := a5.trans (K2.out.mono (by omega))
    exact a6.trans (K3.out.mono (by omega)))
  go_wp2
  go_ret
  exact ⟨rfl, HFin.out⟩
theorem statesTake_walk (w : World) (st sm mo : Int) (vals : List Int) (chg : List Bool) (inb : List Ml) (A1 A2 A3 : Option Addr) (c1 c2 c3 : Nat) (r1 : Rd w w.heap.size A1 (i64s vals)) (r2 : Rd w w.heap.size A2 (bools chg)) (r3 : Rd w w.heap.size A3 (mlFlat inb)) (hl : vals.length ≤ 9223372036854775807 ∧ chg.length ≤ 9223372036854775807 ∧ inb.length ≤ 9223372036854775807)
    (n : Int) (hn1 : -9223372036854775808 ≤ n) (hn2 : n ≤ 9223372036854775807) (k : Int) (hk1 : -9223372036854775808 ≤ k) (hk2 : k ≤ 9223372036854775807) :
    Calls Try.prog 6 #[.agg #[.int .i64 st, .slice A1 vals.length c1, .slice A2 chg.length c2, .slice A3 inb.length c3, .int .i64 sm, .int .i64 mo], .int .i64 n, .int .i64 k] w fun e W' => e = .returned (.bool true) ∧ Below w.heap.size w W' :=
  statesTake_go w st sm mo A1 A2 A3 _ _ _ c1 c2 c3 vals chg inb n k rfl rfl rfl r1 r2 r3 hl.1 hl.2.1 hl.2.2
end Go.Proofs.Ytgfdlllmcbgbcaa

/- The walk of the statement StatesBack. (printed by gen/sbk.py) -/
import Derived.Test.YtgfdlllmcbgbcaaSpw
import Derived.Test.YtgfdlllmcbgbcaaPck
import Derived.Test.YtgfdlllmcbgbcaaSgl
namespace Go.Proofs.Ytgfdlllmcbgbcaa
open Go.RowKit
set_option linter.unusedVariables false
set_option linter.unusedSimpArgs false
set_option maxRecDepth 100000 in
set_option maxHeartbeats 16000000 in
theorem statesBack_walk (w : World) (p : SPart) (Ao Av Ac Ai : Option Addr) (no nv nc ni co cv cc ci : Nat) (hlen : SLen p no nv nc ni) (hi : SIn w p Ao Av Ac Ai) (hb : no ≤ 9223372036854775807 ∧ nv ≤ 9223372036854775807 ∧ nc ≤ 9223372036854775807 ∧ ni ≤ 9223372036854775807) (A0 : Option Addr) (bs : List UInt8) (c : Nat) (hR : Rd w w.heap.size A0 (u8s bs)) (hlm : bs.length ≤ 9223372036854775807) (cut : Int) (hcut1 : -9223372036854775808 ≤ cut) (hcut2 : cut ≤ 9223372036854775807) :
    Calls Try.prog 5 #[.agg #[.int .i64 p.step, .slice Ao no co, .slice Av nv cv, .slice Ac nc cc, .slice Ai ni ci], .slice A0 bs.length c, .int .i64 cut] w fun e W' => e = .returned (.bool true) ∧ Below w.heap.size w W' := by
  have hlen' := hlen
  obtain ⟨hbo, hbv, hbc, hbi⟩ := hb
  obtain ⟨L, hL⟩ : ∃ L, bs.length = L := ⟨_, rfl⟩
  rw [hL] at hlm ⊢
  obtain ⟨u, hu⟩ : ∃ u, w.alloc (.cells #[.int .i64 p.step, .slice Ao no co, .slice Av nv cv, .slice Ac nc cc, .slice Ai ni ci] 27) = u := ⟨_, rfl⟩
  have hzu : w.heap.size + 1 ≤ u.heap.size := by rw [← hu]; simp
  have hbu : Below w.heap.size w u := by rw [← hu]; exact (Below.refl _ _).alloc (Nat.le_refl _) _
  have hcu : u.heap[w.heap.size]? = some (.cells #[.int .i64 p.step, .slice Ao no co, .slice Av nv cv, .slice Ac nc cc, .slice Ai ni ci] 27) := by rw [← hu]; exact heap_alloc_last _ _
  have E0 := hide (show u.cell? ⟨w.heap.size, 0, none⟩ = some (.int .i64 p.step) from cell_of_row _ _ 0 _ _ _ hcu)
  have E1 := hide (show u.cell? ⟨w.heap.size, 1, none⟩ = some (.slice Ao no co) from cell_of_row _ _ 1 _ _ _ hcu)
  have E2 := hide (show u.cell? ⟨w.heap.size, 2, none⟩ = some (.slice Av nv cv) from cell_of_row _ _ 2 _ _ _ hcu)
  have E3 := hide (show u.cell? ⟨w.heap.size, 3, none⟩ = some (.slice Ac nc cc) from cell_of_row _ _ 3 _ _ _ hcu)
  have E4 := hide (show u.cell? ⟨w.heap.size, 4, none⟩ = some (.slice Ai ni ci) from cell_of_row _ _ 4 _ _ _ hcu)
  have HI := hide (hi.next hbu)
  have HR := hide (hR.next hbu)
  have HLen := hide hlen
  have HB := hide hbu
  have HU := hide hu
  have HL := hide hL
  have KU := hide (Below.refl u.heap.size u)
  clear hu hbu hcu hi hlen hR hL
  rcases hf : (decide (no ≤ 60) && decide (nv ≤ 60) && decide (nc ≤ 60) && decide (ni ≤ 60)) with _ | _
  · have HF := hide hf
    clear hf
    go_enter Try.func5, Try.ntmps5
    go_wp2_with fail
    rw [HU.out]
    refine (sfew_any u p.step Ao Av Ac Ai no nv nc ni co cv cc ci).mono ?_
    rintro e y1 ⟨rfl, kk⟩
    rw [HF.out]
    have KU' := hide (KU.out.trans (kk.mono KU.out.size))
    clear KU kk
    have KU := KU'
    clear KU'
    have su : u.heap.size ≤ y1.heap.size := KU.out.size
    have lw : w.heap.size < y1.heap.size := by omega
    go_wp2_with fail
    refine (works_any _).mono ?_
    rintro e yw ⟨rfl, k2⟩
    have HFin := hide (HB.out.trans ((KU.out.trans (k2.mono KU.out.size)).mono (by omega)))
    clear k2
    go_wp2
    go_ret
    exact ⟨rfl, HFin.out⟩
  · have HF := hide hf
    have hno : no ≤ 60 := by simp only [Bool.and_eq_true, decide_eq_true_eq] at hf; exact hf.1.1.1
    clear hf
    by_cases hl : 1200 < L
    · have hl' : (1200 : Int) < (L : Int) := by omega
      go_enter Try.func5, Try.ntmps5
      go_wp2_with fail
      rw [HU.out]
      refine (sfew_any u p.step Ao Av Ac Ai no nv nc ni co cv cc ci).mono ?_
      rintro e y1 ⟨rfl, kk⟩
      rw [HF.out]
      have KU' := hide (KU.out.trans (kk.mono KU.out.size))
      clear KU kk
      have KU := KU'
      clear KU'
      have su : u.heap.size ≤ y1.heap.size := KU.out.size
      have lw : w.heap.size < y1.heap.size := by omega
      go_wp2_with fail
      refine (works_any _).mono ?_
      rintro e yw ⟨rfl, k2⟩
      have HFin := hide (HB.out.trans ((KU.out.trans (k2.mono KU.out.size)).mono (by omega)))
      clear k2
      go_wp2
      go_ret
      exact ⟨rfl, HFin.out⟩
    · have hl' : (L : Int) ≤ 1200 := by omega
      rcases hr : rightB p with _ | _
      · have HRt := hide hr
        clear hr
        go_enter Try.func5, Try.ntmps5
        go_wp2_with fail
        rw [HU.out]
        refine (sfew_any u p.step Ao Av Ac Ai no nv nc ni co cv cc ci).mono ?_
        rintro e y1 ⟨rfl, kk⟩
        rw [HF.out]
        have KU' := hide (KU.out.trans (kk.mono KU.out.size))
        clear KU kk
        have KU := KU'
        clear KU'
        have su : u.heap.size ≤ y1.heap.size := KU.out.size
        have lw : w.heap.size < y1.heap.size := by omega
        have x0 : y1.cell? ⟨w.heap.size, 0, none⟩ = some (.int .i64 p.step) := (KU.out.cell (p := ⟨w.heap.size, 0, none⟩) (by show w.heap.size < _; omega)).trans E0.out
        have x1 : y1.cell? ⟨w.heap.size, 1, none⟩ = some (.slice Ao no co) := (KU.out.cell (p := ⟨w.heap.size, 1, none⟩) (by show w.heap.size < _; omega)).trans E1.out
        have x2 : y1.cell? ⟨w.heap.size, 2, none⟩ = some (.slice Av nv cv) := (KU.out.cell (p := ⟨w.heap.size, 2, none⟩) (by show w.heap.size < _; omega)).trans E2.out
        have x3 : y1.cell? ⟨w.heap.size, 3, none⟩ = some (.slice Ac nc cc) := (KU.out.cell (p := ⟨w.heap.size, 3, none⟩) (by show w.heap.size < _; omega)).trans E3.out
        have x4 : y1.cell? ⟨w.heap.size, 4, none⟩ = some (.slice Ai ni ci) := (KU.out.cell (p := ⟨w.heap.size, 4, none⟩) (by show w.heap.size < _; omega)).trans E4.out
        have HIc := hide (HI.out.next KU.out)
        have hcall := sput_any y1 p Ao Av Ac Ai no nv nc ni co cv cc ci HLen.out (by omega) HIc.out
        rw [show putOut p = [] by simp [putOut, HRt.out], show putCode p = 4 by simp [putCode, HRt.out]] at hcall
        have HC := hide hcall
        clear hcall HIc
        go_wp2_with fail
        refine HC.out.mono ?_
        clear HC
        rintro e y2 ⟨A1, c1, n1, hn1, rfl, hr1, hc1, hm1, kk⟩
        clear x0 x1 x2 x3 x4
        have R1 := hide hr1
        have HN1 := hide hn1
        clear hr1 hn1 su lw
        have ky2 := hide kk
        have KU' := hide (KU.out.trans (kk.mono KU.out.size))
        clear KU kk
        have KU := KU'
        clear KU'
        have su : u.heap.size ≤ y2.heap.size := KU.out.size
        have lw : w.heap.size < y2.heap.size := by omega
        clear ky2 R1 HN1 su
        go_upto_region 9 with fail
        obtain ⟨z0, rfl⟩ : ∃ z : World, z = y2 := ⟨_, rfl⟩
        have HRz := hide (HR.out.next KU.out)
        have lw0 : w.heap.size < z0.heap.size := by omega
        rcases hg : getF bs with _ | q
        · have HG := hide hg
          clear hg
          have hcall := sget_any z0 A0 bs L c HL.out HRz.out (by omega)
          rw [show getP bs = noP by simp [getP, HG.out, noP], show getE bs = 140 by simp [getE, HG.out]] at hcall
          go_wp2_with fail
          refine hcall.mono ?_
          clear hcall
          rintro e z1 ⟨mo, mv, mc, mi, Bo, do', Bv, dv, Bc, dc, Bi, di, hsl, hmo, rfl, hsi, kk⟩
          have HQI := hide hsi
          have HQL := hide hsl
          clear hsi hsl
          have KU' := hide (KU.out.trans (kk.mono KU.out.size))
          clear KU kk
          have KU := KU'
          clear KU'
          have su : u.heap.size ≤ z1.heap.size := KU.out.size
          have lw : w.heap.size < z1.heap.size := by omega
          clear su lw
          go_upto_region 10 with fail
          (try dsimp only [noP])
          obtain ⟨z2, hnew⟩ : ∃ z, z1.alloc (.cells #[.int .i64 0, .slice Bo mo do', .slice Bv mv dv, .slice Bc mc dc, .slice Bi mi di] 27) = z := ⟨_, rfl⟩
          rw [hnew]
          have kk : Below z1.heap.size z1 z2 := by rw [← hnew]; exact (Below.refl _ _).alloc (Nat.le_refl _) _
          have hlast : z2.heap[z1.heap.size]? = some (.cells #[.int .i64 0, .slice Bo mo do', .slice Bv mv dv, .slice Bc mc dc, .slice Bi mi di] 27) := by rw [← hnew]; exact heap_alloc_last _ _
          have hsz2 : z1.heap.size < z2.heap.size := by rw [← hnew]; simp
          clear hnew hlast
          have KU' := hide (KU.out.trans (kk.mono KU.out.size))
          clear KU kk
          have KU := KU'
          clear KU'
          have su : u.heap.size ≤ z2.heap.size := KU.out.size
          have lw : w.heap.size < z2.heap.size := by omega
          go_wp2_with fail
          refine (works_any _).mono ?_
          rintro e yw ⟨rfl, k2⟩
          have HFin := hide (HB.out.trans ((KU.out.trans (k2.mono KU.out.size)).mono (by omega)))
          clear k2
          go_wp2
          go_ret
          exact ⟨rfl, HFin.out⟩
        · have hpg := putB_get hg
          have hown := get_own hg
          rw [HL.out] at hown
          have HG := hide hg
          clear hg
          have hcall := sget_any z0 A0 bs L c HL.out HRz.out (by omega)
          rw [show getP bs = q by simp [getP, HG.out, noP], show getE bs = 0 by simp [getE, HG.out]] at hcall
          go_wp2_with fail
          refine hcall.mono ?_
          clear hcall
          rintro e z1 ⟨mo, mv, mc, mi, Bo, do', Bv, dv, Bc, dc, Bi, di, hsl, hmo, rfl, hsi, kk⟩
          have HQI := hide hsi
          have HQL := hide hsl
          clear hsi hsl
          have KU' := hide (KU.out.trans (kk.mono KU.out.size))
          clear KU kk
          have KU := KU'
          clear KU'
          have su : u.heap.size ≤ z1.heap.size := KU.out.size
          have lw : w.heap.size < z1.heap.size := by omega
          clear su lw
          have hmo2 : mo ≤ 2000 := by have := HQL.out.1; omega
          go_upto_region 10 with fail
          obtain ⟨z2, hnew⟩ : ∃ z, z1.alloc (.cells #[.int .i64 q.step, .slice Bo mo do', .slice Bv mv dv, .slice Bc mc dc, .slice Bi mi di] 27) = z := ⟨_, rfl⟩
          rw [hnew]
          have kk : Below z1.heap.size z1 z2 := by rw [← hnew]; exact (Below.refl _ _).alloc (Nat.le_refl _) _
          have hlast : z2.heap[z1.heap.size]? = some (.cells #[.int .i64 q.step, .slice Bo mo do', .slice Bv mv dv, .slice Bc mc dc, .slice Bi mi di] 27) := by rw [← hnew]; exact heap_alloc_last _ _
          have hsz2 : z1.heap.size < z2.heap.size := by rw [← hnew]; simp
          have HQ2 := hide (HQI.out.next kk)
          have w0 : z2.cell? ⟨z1.heap.size, 0, none⟩ = some (.int .i64 q.step) := cell_of_row _ _ 0 _ _ _ hlast
          have w1 : z2.cell? ⟨z1.heap.size, 1, none⟩ = some (.slice Bo mo do') := cell_of_row _ _ 1 _ _ _ hlast
          have w2 : z2.cell? ⟨z1.heap.size, 2, none⟩ = some (.slice Bv mv dv) := cell_of_row _ _ 2 _ _ _ hlast
          have w3 : z2.cell? ⟨z1.heap.size, 3, none⟩ = some (.slice Bc mc dc) := cell_of_row _ _ 3 _ _ _ hlast
          have w4 : z2.cell? ⟨z1.heap.size, 4, none⟩ = some (.slice Bi mi di) := cell_of_row _ _ 4 _ _ _ hlast
          clear hnew hlast
          have KU' := hide (KU.out.trans (kk.mono KU.out.size))
          clear KU kk
          have KU := KU'
          clear KU'
          have su : u.heap.size ≤ z2.heap.size := KU.out.size
          have lw : w.heap.size < z2.heap.size := by omega
          have hcall := sput_any z2 q Bo Bv Bc Bi mo mv mc mi do' dv dc di HQL.out hmo2 HQ2.out
          rw [show putOut q = bs by simp [putOut, hpg.1, hpg.2.1], show putCode q = 0 by simp [putCode, hpg.2.1]] at hcall
          have HC := hide hcall
          clear hcall hpg
          go_wp2_with fail
          refine HC.out.mono ?_
          clear HC w0 w1 w2 w3 w4
          rintro e z3 ⟨A1, c1, n1, hn1, rfl, hr1, hc1, hm1, kk⟩
          clear su lw
          have KU' := hide (KU.out.trans (kk.mono KU.out.size))
          clear KU kk
          have KU := KU'
          clear KU'
          have su : u.heap.size ≤ z3.heap.size := KU.out.size
          have lw : w.heap.size < z3.heap.size := by omega
          obtain rfl : n1 = L := by have := HL.out; omega
          have k1 := str_kept (c := c1) hr1 hn1 _ (Kept.refl _)
          have k2 := str_kept (c := c) (HR.out.next KU.out) HL.out _ (Kept.refl _)
          clear hr1 hn1
          go_wp2_with fail
          refine (works_any _).mono ?_
          rintro e yw ⟨rfl, k2⟩
          have HFin := hide (HB.out.trans ((KU.out.trans (k2.mono KU.out.size)).mono (by omega)))
          clear k2
          go_wp2
          go_ret
          exact ⟨rfl, HFin.out⟩
      · have hgp := getF_put hr (by rw [hlen'.1]; exact hno)
        have HRt := hide hr
        have HGP := hide hgp
        clear hr hgp
        go_enter Try.func5, Try.ntmps5
        go_wp2_with fail
        rw [HU.out]
        refine (sfew_any u p.step Ao Av Ac Ai no nv nc ni co cv cc ci).mono ?_
        rintro e y1 ⟨rfl, kk⟩
        rw [HF.out]
        have KU' := hide (KU.out.trans (kk.mono KU.out.size))
        clear KU kk
        have KU := KU'
        clear KU'
        have su : u.heap.size ≤ y1.heap.size := KU.out.size
        have lw : w.heap.size < y1.heap.size := by omega
        have x0 : y1.cell? ⟨w.heap.size, 0, none⟩ = some (.int .i64 p.step) := (KU.out.cell (p := ⟨w.heap.size, 0, none⟩) (by show w.heap.size < _; omega)).trans E0.out
        have x1 : y1.cell? ⟨w.heap.size, 1, none⟩ = some (.slice Ao no co) := (KU.out.cell (p := ⟨w.heap.size, 1, none⟩) (by show w.heap.size < _; omega)).trans E1.out
        have x2 : y1.cell? ⟨w.heap.size, 2, none⟩ = some (.slice Av nv cv) := (KU.out.cell (p := ⟨w.heap.size, 2, none⟩) (by show w.heap.size < _; omega)).trans E2.out
        have x3 : y1.cell? ⟨w.heap.size, 3, none⟩ = some (.slice Ac nc cc) := (KU.out.cell (p := ⟨w.heap.size, 3, none⟩) (by show w.heap.size < _; omega)).trans E3.out
        have x4 : y1.cell? ⟨w.heap.size, 4, none⟩ = some (.slice Ai ni ci) := (KU.out.cell (p := ⟨w.heap.size, 4, none⟩) (by show w.heap.size < _; omega)).trans E4.out
        have HIc := hide (HI.out.next KU.out)
        have hcall := sput_any y1 p Ao Av Ac Ai no nv nc ni co cv cc ci HLen.out (by omega) HIc.out
        rw [show putOut p = putB p by simp [putOut, HRt.out], show putCode p = 0 by simp [putCode, HRt.out]] at hcall
        have HC := hide hcall
        clear hcall HIc
        go_wp2_with fail
        refine HC.out.mono ?_
        clear HC
        rintro e y2 ⟨A1, c1, n1, hn1, rfl, hr1, hc1, hm1, kk⟩
        clear x0 x1 x2 x3 x4
        have R1 := hide hr1
        have HN1 := hide hn1
        clear hr1 hn1 su lw
        have ky2 := hide kk
        have KU' := hide (KU.out.trans (kk.mono KU.out.size))
        clear KU kk
        have KU := KU'
        clear KU'
        have su : u.heap.size ≤ y2.heap.size := KU.out.size
        have lw : w.heap.size < y2.heap.size := by omega
        have hn6 : 6 ≤ n1 := by rw [← HN1.out]; exact put_long p
        have hn7 : n1 ≤ 1200 := by have h1 := putB_len p; rw [HN1.out, HLen.out.1] at h1; omega
        have hcall := sget_any y2 A1 (putB p) n1 c1 HN1.out R1.out (by omega)
        rw [show getP (putB p) = nmS p by simp [getP, HGP.out], show getE (putB p) = 0 by simp [getE, HGP.out]] at hcall
        have HC := hide hcall
        clear hcall su lw
        go_wp2_with fail
        refine HC.out.mono ?_
        clear HC
        rintro e y3 ⟨mo, mv, mc, mi, Bo, do', Bv, dv, Bc, dc, Bi, di, hsl, hmo, rfl, hsi, kk⟩
        have HQI := hide hsi
        have HQL := hide hsl
        clear hsi hsl
        have R3 := hide (R1.out.next kk)
        clear R1 ky2
        have KU' := hide (KU.out.trans (kk.mono KU.out.size))
        clear KU kk
        have KU := KU'
        clear KU'
        have su : u.heap.size ≤ y3.heap.size := KU.out.size
        have lw : w.heap.size < y3.heap.size := by omega
        go_upto_region 6 with fail
        dsimp only [nmS]
        clear su lw
        obtain ⟨y4, hnew⟩ : ∃ z, y3.alloc (.cells #[.int .i64 p.step, .slice Bo mo do', .slice Bv mv dv, .slice Bc mc dc, .slice Bi mi di] 27) = z := ⟨_, rfl⟩
        rw [hnew]
        have kk : Below y3.heap.size y3 y4 := by rw [← hnew]; exact (Below.refl _ _).alloc (Nat.le_refl _) _
        have hlast : y4.heap[y3.heap.size]? = some (.cells #[.int .i64 p.step, .slice Bo mo do', .slice Bv mv dv, .slice Bc mc dc, .slice Bi mi di] 27) := by rw [← hnew]; exact heap_alloc_last _ _
        have hsz2 : y3.heap.size < y4.heap.size := by rw [← hnew]; simp
        have HQ4 := hide (HQI.out.next kk)
        have R4 := hide (R3.out.next kk)
        have M4 := hide hlast
        have hb4 : y3.heap.size < y4.heap.size := hsz2
        clear hnew hlast HQI R3
        have KU' := hide (KU.out.trans (kk.mono KU.out.size))
        clear KU kk
        have KU := KU'
        clear KU'
        have su : u.heap.size ≤ y4.heap.size := KU.out.size
        have lw : w.heap.size < y4.heap.size := by omega
        have hpk := pick_rng cut n1 (by omega)
        obtain ⟨k, hk⟩ : ∃ k : Nat, pickOf cut n1 = (k : Int) := ⟨(pickOf cut n1).toNat, by omega⟩
        rw [hk] at hpk
        have HK := hide hk
        clear hk
        have hkn : k < n1 := by omega
        have hcut := getF_begin HGP.out k (by rw [HN1.out]; exact hkn)
        have HCut := hide hcut
        clear hcut hpk
        go_wp2_with fail
        refine (pick_any y4 cut n1 hcut1 hcut2 (by omega) (by omega)).mono ?_
        rintro e y5 ⟨rfl, rfl⟩
        rw [HK.out]
        have hcall := sget_any y5 A1 ((putB p).take k) k c1 (by rw [List.length_take, HN1.out]; omega) (rd_first R4.out k) (by omega)
        rw [show getP ((putB p).take k) = noP by simp [getP, HCut.out], show getE ((putB p).take k) = 140 by simp [getE, HCut.out]] at hcall
        have HC := hide hcall
        clear hcall su lw
        have hkc : k ≤ c1 := by omega
        go_wp2_with fail
        refine HC.out.mono ?_
        clear HC
        rintro e y6 ⟨no2, nv2, nc2, ni2, Co, eo, Cv, ev, Cc, ec, Ci, ei, hsl, hno2, rfl, hsi, kk⟩
        clear hsl hsi
        have HQ6 := hide (HQ4.out.next kk)
        have hb6 := Nat.lt_of_lt_of_le hb4 kk.size
        have M6 := hide ((kk.block _ hb4).trans M4.out)
        clear HQ4 M4 hb4 R4
        have KU' := hide (KU.out.trans (kk.mono KU.out.size))
        clear KU kk
        have KU := KU'
        clear KU'
        have su : u.heap.size ≤ y6.heap.size := KU.out.size
        have lw : w.heap.size < y6.heap.size := by omega
        go_upto_region 7 with fail
        dsimp only [noP]
        clear su lw
        obtain ⟨y7, hnew⟩ : ∃ z, y6.alloc (.cells #[.int .i64 0, .slice Co no2 eo, .slice Cv nv2 ev, .slice Cc nc2 ec, .slice Ci ni2 ei] 27) = z := ⟨_, rfl⟩
        rw [hnew]
        have kk : Below y6.heap.size y6 y7 := by rw [← hnew]; exact (Below.refl _ _).alloc (Nat.le_refl _) _
        have hlast : y7.heap[y6.heap.size]? = some (.cells #[.int .i64 0, .slice Co no2 eo, .slice Cv nv2 ev, .slice Cc nc2 ec, .slice Ci ni2 ei] 27) := by rw [← hnew]; exact heap_alloc_last _ _
        have hsz2 : y6.heap.size < y7.heap.size := by rw [← hnew]; simp
        have HQ7 := hide (HQ6.out.next kk)
        have hb7 := Nat.lt_of_lt_of_le hb6 kk.size
        have M7 := (kk.block _ hb6).trans M6.out
        clear hnew hlast HQ6 M6 hb6
        have KU' := hide (KU.out.trans (kk.mono KU.out.size))
        clear KU kk
        have KU := KU'
        clear KU'
        have su : u.heap.size ≤ y7.heap.size := KU.out.size
        have lw : w.heap.size < y7.heap.size := by omega
        have x0 : y7.cell? ⟨w.heap.size, 0, none⟩ = some (.int .i64 p.step) := (KU.out.cell (p := ⟨w.heap.size, 0, none⟩) (by show w.heap.size < _; omega)).trans E0.out
        have x1 : y7.cell? ⟨w.heap.size, 1, none⟩ = some (.slice Ao no co) := (KU.out.cell (p := ⟨w.heap.size, 1, none⟩) (by show w.heap.size < _; omega)).trans E1.out
        have x2 : y7.cell? ⟨w.heap.size, 2, none⟩ = some (.slice Av nv cv) := (KU.out.cell (p := ⟨w.heap.size, 2, none⟩) (by show w.heap.size < _; omega)).trans E2.out
        have x3 : y7.cell? ⟨w.heap.size, 3, none⟩ = some (.slice Ac nc cc) := (KU.out.cell (p := ⟨w.heap.size, 3, none⟩) (by show w.heap.size < _; omega)).trans E3.out
        have x4 : y7.cell? ⟨w.heap.size, 4, none⟩ = some (.slice Ai ni ci) := (KU.out.cell (p := ⟨w.heap.size, 4, none⟩) (by show w.heap.size < _; omega)).trans E4.out
        have v0 : y7.cell? ⟨y3.heap.size, 0, none⟩ = some (.int .i64 p.step) := cell_of_row _ _ 0 _ _ _ M7
        have v1 : y7.cell? ⟨y3.heap.size, 1, none⟩ = some (.slice Bo mo do') := cell_of_row _ _ 1 _ _ _ M7
        have v2 : y7.cell? ⟨y3.heap.size, 2, none⟩ = some (.slice Bv mv dv) := cell_of_row _ _ 2 _ _ _ M7
        have v3 : y7.cell? ⟨y3.heap.size, 3, none⟩ = some (.slice Bc mc dc) := cell_of_row _ _ 3 _ _ _ M7
        have v4 : y7.cell? ⟨y3.heap.size, 4, none⟩ = some (.slice Bi mi di) := cell_of_row _ _ 4 _ _ _ M7
        have HIc := hide (HI.out.next KU.out)
        have hcall := ssame_any y7 (nmS p) Bo Bv Bc Bi mo mv mc mi do' dv dc di HQL.out HQ7.out p Ao Av Ac Ai no nv nc ni co cv cc ci HLen.out HIc.out (by omega) (by have := HQL.out.2.1; have := HLen.out.2.1; simp [nmS] at *; omega) (by have := HQL.out.2.2.1; have := HLen.out.2.2.1; simp [nmS] at *; omega) (by have := HQL.out.2.2.2; have := HLen.out.2.2.2; simp [nmS] at *; omega)
        rw [sameS_nm] at hcall
        dsimp only [nmS] at hcall
        have HC := hide hcall
        clear hcall
        go_wp2_with fail
        refine HC.out.mono ?_
        clear HC v0 v1 v2 v3 v4 x0 x1 x2 x3 x4
        rintro e y8 ⟨rfl, kk⟩
        clear HQ7 M7 hb7 su lw
        have KU' := hide (KU.out.trans (kk.mono KU.out.size))
        clear KU kk
        have KU := KU'
        clear KU'
        have su : u.heap.size ≤ y8.heap.size := KU.out.size
        have lw : w.heap.size < y8.heap.size := by omega
        go_upto_region 9 with fail
        obtain ⟨z0, rfl⟩ : ∃ z : World, z = y8 := ⟨_, rfl⟩
        have HRz := hide (HR.out.next KU.out)
        have lw0 : w.heap.size < z0.heap.size := by omega
        rcases hg : getF bs with _ | q
        · have HG := hide hg
          clear hg
          have hcall := sget_any z0 A0 bs L c HL.out HRz.out (by omega)
          rw [show getP bs = noP by simp [getP, HG.out, noP], show getE bs = 140 by simp [getE, HG.out]] at hcall
          go_wp2_with fail
          refine hcall.mono ?_
          clear hcall
          rintro e z1 ⟨mo, mv, mc, mi, Bo, do', Bv, dv, Bc, dc, Bi, di, hsl, hmo, rfl, hsi, kk⟩
          have HQI := hide hsi
          have HQL := hide hsl
          clear hsi hsl
          have KU' := hide (KU.out.trans (kk.mono KU.out.size))
          clear KU kk
          have KU := KU'
          clear KU'
          have su : u.heap.size ≤ z1.heap.size := KU.out.size
          have lw : w.heap.size < z1.heap.size := by omega
          clear su lw
          go_upto_region 10 with fail
          (try dsimp only [noP])
          obtain ⟨z2, hnew⟩ : ∃ z, z1.alloc (.cells #[.int .i64 0, .slice Bo mo do', .slice Bv mv dv, .slice Bc mc dc, .slice Bi mi di] 27) = z := ⟨_, rfl⟩
          rw [hnew]
          have kk : Below z1.heap.size z1 z2 := by rw [← hnew]; exact (Below.refl _ _).alloc (Nat.le_refl _) _
          have hlast : z2.heap[z1.heap.size]? = some (.cells #[.int .i64 0, .slice Bo mo do', .slice Bv mv dv, .slice Bc mc dc, .slice Bi mi di] 27) := by rw [← hnew]; exact heap_alloc_last _ _
          have hsz2 : z1.heap.size < z2.heap.size := by rw [← hnew]; simp
          clear hnew hlast
          have KU' := hide (KU.out.trans (kk.mono KU.out.size))
          clear KU kk
          have KU := KU'
          clear KU'
          have su : u.heap.size ≤ z2.heap.size := KU.out.size
          have lw : w.heap.size < z2.heap.size := by omega
          go_wp2_with fail
          refine (works_any _).mono ?_
          rintro e yw ⟨rfl, k2⟩
          have HFin := hide (HB.out.trans ((KU.out.trans (k2.mono KU.out.size)).mono (by omega)))
          clear k2
          go_wp2
          go_ret
          exact ⟨rfl, HFin.out⟩
        · have hpg := putB_get hg
          have hown := get_own hg
          rw [HL.out] at hown
          have HG := hide hg
          clear hg
          have hcall := sget_any z0 A0 bs L c HL.out HRz.out (by omega)
          rw [show getP bs = q by simp [getP, HG.out, noP], show getE bs = 0 by simp [getE, HG.out]] at hcall
          go_wp2_with fail
          refine hcall.mono ?_
          clear hcall
          rintro e z1 ⟨mo, mv, mc, mi, Bo, do', Bv, dv, Bc, dc, Bi, di, hsl, hmo, rfl, hsi, kk⟩
          have HQI := hide hsi
          have HQL := hide hsl
          clear hsi hsl
          have KU' := hide (KU.out.trans (kk.mono KU.out.size))
          clear KU kk
          have KU := KU'
          clear KU'
          have su : u.heap.size ≤ z1.heap.size := KU.out.size
          have lw : w.heap.size < z1.heap.size := by omega
          clear su lw
          have hmo2 : mo ≤ 2000 := by have := HQL.out.1; omega
          go_upto_region 10 with fail
          obtain ⟨z2, hnew⟩ : ∃ z, z1.alloc (.cells #[.int .i64 q.step, .slice Bo mo do', .slice Bv mv dv, .slice Bc mc dc, .slice Bi mi di] 27) = z := ⟨_, rfl⟩
          rw [hnew]
          have kk : Below z1.heap.size z1 z2 := by rw [← hnew]; exact (Below.refl _ _).alloc (Nat.le_refl _) _
          have hlast : z2.heap[z1.heap.size]? = some (.cells #[.int .i64 q.step, .slice Bo mo do', .slice Bv mv dv, .slice Bc mc dc, .slice Bi mi di] 27) := by rw [← hnew]; exact heap_alloc_last _ _
          have hsz2 : z1.heap.size < z2.heap.size := by rw [← hnew]; simp
          have HQ2 := hide (HQI.out.next kk)
          have w0 : z2.cell? ⟨z1.heap.size, 0, none⟩ = some (.int .i64 q.step) := cell_of_row _ _ 0 _ _ _ hlast
          have w1 : z2.cell? ⟨z1.heap.size, 1, none⟩ = some (.slice Bo mo do') := cell_of_row _ _ 1 _ _ _ hlast
          have w2 : z2.cell? ⟨z1.heap.size, 2, none⟩ = some (.slice Bv mv dv) := cell_of_row _ _ 2 _ _ _ hlast
          have w3 : z2.cell? ⟨z1.heap.size, 3, none⟩ = some (.slice Bc mc dc) := cell_of_row _ _ 3 _ _ _ hlast
          have w4 : z2.cell? ⟨z1.heap.size, 4, none⟩ = some (.slice Bi mi di) := cell_of_row _ _ 4 _ _ _ hlast
          clear hnew hlast
          have KU' := hide (KU.out.trans (kk.mono KU.out.size))
          clear KU kk
          have KU := KU'
          clear KU'
          have su : u.heap.size ≤ z2.heap.size := KU.out.size
          have lw : w.heap.size < z2.heap.size := by omega
          have hcall := sput_any z2 q Bo Bv Bc Bi mo mv mc mi do' dv dc di HQL.out hmo2 HQ2.out
          rw [show putOut q = bs by simp [putOut, hpg.1, hpg.2.1], show putCode q = 0 by simp [putCode, hpg.2.1]] at hcall
          have HC := hide hcall
          clear hcall hpg
          go_wp2_with fail
          refine HC.out.mono ?_
          clear HC w0 w1 w2 w3 w4
          rintro e z3 ⟨A1, c1, n1, hn1, rfl, hr1, hc1, hm1, kk⟩
          clear su lw
          have KU' := hide (KU.out.trans (kk.mono KU.out.size))
          clear KU kk
          have KU := KU'
          clear KU'
          have su : u.heap.size ≤ z3.heap.size := KU.out.size
          have lw : w.heap.size < z3.heap.size := by omega
          obtain rfl : n1 = L := by have := HL.out; omega
          have k1 := str_kept (c := c1) hr1 hn1 _ (Kept.refl _)
          have k2 := str_kept (c := c) (HR.out.next KU.out) HL.out _ (Kept.refl _)
          clear hr1 hn1
          go_wp2_with fail
          refine (works_any _).mono ?_
          rintro e yw ⟨rfl, k2⟩
          have HFin := hide (HB.out.trans ((KU.out.trans (k2.mono KU.out.size)).mono (by omega)))
          clear k2
          go_wp2
          go_ret
          exact ⟨rfl, HFin.out⟩
end Go.Proofs.Ytgfdlllmcbgbcaa

/- SeqRun, walked. -/
import Derived.Test.YtpgbjabifhjogaaGreatSeqRunw44
namespace Go.Proofs.YtpgbjabifhjogaaGreat
open Go.RowKit Go.Shelf
attribute [local go_sem] Oper.semAt_some
set_option linter.unusedVariables false
set_option linter.unusedSimpArgs false
set_option maxRecDepth 100000 in
set_option maxHeartbeats 16000000 in
theorem seqRun_walk (w : World) (V : Int) (A : Option Addr) (es : List Ed) (c : Nat) (hV1 : -9223372036854775808 ≤ V) (hV2 : V ≤ 9223372036854775807) (hE : Eds w w.heap.size A es) (hl : es.length ≤ c) (hc : c ≤ 9223372036854775807) (hB : ∀ e ∈ es, edB e) (k j1 j2 j3 j4 : Int) (hk : 0 ≤ k ∧ k ≤ 255) (hj1 : i64B j1) (hj2 : i64B j2) (hj3 : i64B j3) (hj4 : i64B j4) :
  Calls Tryz.prog 6 #[.agg #[.int .i64 V, .slice A es.length c], .agg #[.int .u8 k, .int .i64 j1, .int .i64 j2, .int .i64 j3, .int .i64 j4]] w fun e w' => e = .returned (.bool true) ∧ Below w.heap.size w w' := by
 have HE := hide hE
 obtain ⟨L, hL⟩ : ∃ q, es.length = q := ⟨_, rfl⟩
 rw [hL] at hl ⊢
 have HL := hide hL
 clear hL hE hB
 obtain ⟨u, hu⟩ : ∃ u, (w.alloc (.cells #[.int .i64 V, .slice A L c] 24)).alloc (.cells #[.int .u8 k, .int .i64 j1, .int .i64 j2, .int .i64 j3, .int .i64 j4] 26) = u := ⟨_, rfl⟩
 have HU := hide (allocs2 hu)
 have HUe := hide hu
 clear hu
 have hzu : u.heap.size = w.heap.size + 2 := HU.out.2.1
 have hu0 : w.heap.size < u.heap.size := by omega
 have hu1 : w.heap.size + 1 < u.heap.size := by omega
 have K0 := hide (Below.refl u.heap.size u)
 rcases hv : lit12 V es with _ | _
 ·have HV := hide hv
  have hlq := lightq_any u V A es L c HL.out (by omega) ((HE.out.below HU.out.1 (Nat.le_refl _)).more HU.out.1.size)
  rw [hv] at hlq
  have HLQ := hide hlq
  clear hlq
  clear hv
  have c0 : u.cell? ⟨w.heap.size, 0, none⟩ = some (.int .i64 V) := cell_of_row _ _ 0 _ _ _ ((K0.out.block _ hu0).trans HU.out.2.2.1)
  have c1 : u.cell? ⟨w.heap.size, 1, none⟩ = some (.slice A L c) := cell_of_row _ _ 1 _ _ _ ((K0.out.block _ hu0).trans HU.out.2.2.1)
  have d0 : u.cell? ⟨w.heap.size + 1, 0, none⟩ = some (.int .u8 k) := cell_of_row _ _ 0 _ _ _ ((K0.out.block _ hu1).trans HU.out.2.2.2)
  have d1 : u.cell? ⟨w.heap.size + 1, 1, none⟩ = some (.int .i64 j1) := cell_of_row _ _ 1 _ _ _ ((K0.out.block _ hu1).trans HU.out.2.2.2)
  have d2 : u.cell? ⟨w.heap.size + 1, 2, none⟩ = some (.int .i64 j2) := cell_of_row _ _ 2 _ _ _ ((K0.out.block _ hu1).trans HU.out.2.2.2)
  have d3 : u.cell? ⟨w.heap.size + 1, 3, none⟩ = some (.int .i64 j3) := cell_of_row _ _ 3 _ _ _ ((K0.out.block _ hu1).trans HU.out.2.2.2)
  have d4 : u.cell? ⟨w.heap.size + 1, 4, none⟩ = some (.int .i64 j4) := cell_of_row _ _ 4 _ _ _ ((K0.out.block _ hu1).trans HU.out.2.2.2)
  have hz0 : w.heap.size < u.heap.size := by have := K0.out.size; omega
  have hz1 : w.heap.size + 1 < u.heap.size := by have := K0.out.size; omega
  go_enter Tryz.func6, Tryz.ntmps6
  go_upto_region 1 with fail
  rw [HUe.out]
  go_wp2_with fail
  refine HLQ.out.mono ?_
  rintro e v1 ⟨rfl, hb⟩
  have K1 : Hid (Below u.heap.size u v1) := hide hb
  have sv1 : u.heap.size ≤ v1.heap.size := hb.size
  clear hb
  clear c0 c1 d0 d1 d2 d3 d4 hz0 hz1
  have c0 : v1.cell? ⟨w.heap.size, 0, none⟩ = some (.int .i64 V) := cell_of_row _ _ 0 _ _ _ ((K1.out.block _ hu0).trans HU.out.2.2.1)
  have c1 : v1.cell? ⟨w.heap.size, 1, none⟩ = some (.slice A L c) := cell_of_row _ _ 1 _ _ _ ((K1.out.block _ hu0).trans HU.out.2.2.1)
  have d0 : v1.cell? ⟨w.heap.size + 1, 0, none⟩ = some (.int .u8 k) := cell_of_row _ _ 0 _ _ _ ((K1.out.block _ hu1).trans HU.out.2.2.2)
  have d1 : v1.cell? ⟨w.heap.size + 1, 1, none⟩ = some (.int .i64 j1) := cell_of_row _ _ 1 _ _ _ ((K1.out.block _ hu1).trans HU.out.2.2.2)
  have d2 : v1.cell? ⟨w.heap.size + 1, 2, none⟩ = some (.int .i64 j2) := cell_of_row _ _ 2 _ _ _ ((K1.out.block _ hu1).trans HU.out.2.2.2)
  have d3 : v1.cell? ⟨w.heap.size + 1, 3, none⟩ = some (.int .i64 j3) := cell_of_row _ _ 3 _ _ _ ((K1.out.block _ hu1).trans HU.out.2.2.2)
  have d4 : v1.cell? ⟨w.heap.size + 1, 4, none⟩ = some (.int .i64 j4) := cell_of_row _ _ 4 _ _ _ ((K1.out.block _ hu1).trans HU.out.2.2.2)
  have hz0 : w.heap.size < v1.heap.size := by have := K1.out.size; omega
  have hz1 : w.heap.size + 1 < v1.heap.size := by have := K1.out.size; omega
  go_wp2_with fail
  refine (works_any _).mono ?_
  rintro e zz ⟨rfl, hzz⟩
  have HZ := hide (HU.out.1.trans ((K1.out.trans (hzz.mono K1.out.size)).mono (by omega)))
  clear hzz
  go_wp2
  go_ret
  exact ⟨rfl, HZ.out⟩
 ·by_cases hq1 : j1 ≤ 40
  ·have hq1' : ¬ (40 < j1) := by omega
   have HV := hide hv
   have hlq := lightq_any u V A es L c HL.out (by omega) ((HE.out.below HU.out.1 (Nat.le_refl _)).more HU.out.1.size)
   rw [hv] at hlq
   have HLQ := hide hlq
   clear hlq
   have hL8 : L ≤ 80 := by have := lit12_le hv; have := HL.out; omega
   clear hv
   obtain ⟨E, hEe⟩ : ∃ q, (acheckF k j1 j2 j3 j4 V es) = q := ⟨_, rfl⟩
   obtain ⟨s, hse⟩ : ∃ q, (atV k j2 j3 es V.toNat (runN k j1 j2 j3 j4 es V.toNat)) = q := ⟨_, rfl⟩
   obtain ⟨Vn, hVn⟩ : ∃ q, V.toNat = q := ⟨_, rfl⟩
   have HOK : Hid (E = 0 → OkS Vn s ∧ Vn ≤ 512) := hide (fun h0 => by
    have hch : acheckF k j1 j2 j3 j4 V es = 0 := by rw [hEe]; exact h0
    have hok := acheck_ok hch
    rw [← hse, ← hVn]
    exact ⟨atV_ok (by omega) hok.1.2.2 _, by omega⟩)
   have HA := hide (fun (x : World) (hx : Below u.heap.size u x) => qrun_any x V A es L c HL.out (by omega) ((HE.out.below (HU.out.1.trans (hx.mono (by omega))) (Nat.le_refl _)).more (HU.out.1.trans (hx.mono (by omega))).size) k j1 j2 j3 j4 (fun _ => hL8))
   have HD := hide (fun (x : World) (hx : Below u.heap.size u x) => qrrun_any x V A es L c HL.out (by omega) ((HE.out.below (HU.out.1.trans (hx.mono (by omega))) (Nat.le_refl _)).more (HU.out.1.trans (hx.mono (by omega))).size) k j1 j2 j3 j4 (fun _ => hL8))
   rw [hse, hEe, hVn] at HA HD
   obtain ⟨p, hp⟩ : ∃ q, resV E s = q := ⟨_, rfl⟩
   clear hEe hse hVn
   have c0 : u.cell? ⟨w.heap.size, 0, none⟩ = some (.int .i64 V) := cell_of_row _ _ 0 _ _ _ ((K0.out.block _ hu0).trans HU.out.2.2.1)
   have c1 : u.cell? ⟨w.heap.size, 1, none⟩ = some (.slice A L c) := cell_of_row _ _ 1 _ _ _ ((K0.out.block _ hu0).trans HU.out.2.2.1)
   have d0 : u.cell? ⟨w.heap.size + 1, 0, none⟩ = some (.int .u8 k) := cell_of_row _ _ 0 _ _ _ ((K0.out.block _ hu1).trans HU.out.2.2.2)
   have d1 : u.cell? ⟨w.heap.size + 1, 1, none⟩ = some (.int .i64 j1) := cell_of_row _ _ 1 _ _ _ ((K0.out.block _ hu1).trans HU.out.2.2.2)
   have d2 : u.cell? ⟨w.heap.size + 1, 2, none⟩ = some (.int .i64 j2) := cell_of_row _ _ 2 _ _ _ ((K0.out.block _ hu1).trans HU.out.2.2.2)
   have d3 : u.cell? ⟨w.heap.size + 1, 3, none⟩ = some (.int .i64 j3) := cell_of_row _ _ 3 _ _ _ ((K0.out.block _ hu1).trans HU.out.2.2.2)
   have d4 : u.cell? ⟨w.heap.size + 1, 4, none⟩ = some (.int .i64 j4) := cell_of_row _ _ 4 _ _ _ ((K0.out.block _ hu1).trans HU.out.2.2.2)
   have hz0 : w.heap.size < u.heap.size := by have := K0.out.size; omega
   have hz1 : w.heap.size + 1 < u.heap.size := by have := K0.out.size; omega
   go_enter Tryz.func6, Tryz.ntmps6
   go_upto_region 1 with fail
   rw [HUe.out]
   go_wp2_with fail
   refine HLQ.out.mono ?_
   rintro e v1 ⟨rfl, hb⟩
   have K1 : Hid (Below u.heap.size u v1) := hide hb
   have sv1 : u.heap.size ≤ v1.heap.size := hb.size
   clear hb
   clear c0 c1 d0 d1 d2 d3 d4 hz0 hz1
   have c0 : v1.cell? ⟨w.heap.size, 0, none⟩ = some (.int .i64 V) := cell_of_row _ _ 0 _ _ _ ((K1.out.block _ hu0).trans HU.out.2.2.1)
   have c1 : v1.cell? ⟨w.heap.size, 1, none⟩ = some (.slice A L c) := cell_of_row _ _ 1 _ _ _ ((K1.out.block _ hu0).trans HU.out.2.2.1)
   have d0 : v1.cell? ⟨w.heap.size + 1, 0, none⟩ = some (.int .u8 k) := cell_of_row _ _ 0 _ _ _ ((K1.out.block _ hu1).trans HU.out.2.2.2)
   have d1 : v1.cell? ⟨w.heap.size + 1, 1, none⟩ = some (.int .i64 j1) := cell_of_row _ _ 1 _ _ _ ((K1.out.block _ hu1).trans HU.out.2.2.2)
   have d2 : v1.cell? ⟨w.heap.size + 1, 2, none⟩ = some (.int .i64 j2) := cell_of_row _ _ 2 _ _ _ ((K1.out.block _ hu1).trans HU.out.2.2.2)
   have d3 : v1.cell? ⟨w.heap.size + 1, 3, none⟩ = some (.int .i64 j3) := cell_of_row _ _ 3 _ _ _ ((K1.out.block _ hu1).trans HU.out.2.2.2)
   have d4 : v1.cell? ⟨w.heap.size + 1, 4, none⟩ = some (.int .i64 j4) := cell_of_row _ _ 4 _ _ _ ((K1.out.block _ hu1).trans HU.out.2.2.2)
   have hz0 : w.heap.size < v1.heap.size := by have := K1.out.size; omega
   have hz1 : w.heap.size + 1 < v1.heap.size := by have := K1.out.size; omega
   go_wp2_with fail
   refine (HA.out v1 K1.out).mono ?_
   intro e y hpost
   obtain ⟨Av1, Ac1, Ai1, nv1, nc1, ni1, cv1, cc1, ci1, he, hl1, hi1, hb, m11, m21, m31⟩ := hpost.val HOK.out
   rw [hp] at he hl1 hi1
   subst he
   have HL1 := hide hl1
   have KY := hide (K1.out.trans (hb.mono K1.out.size))
   have syy := KY.out.size
   clear c0 c1 d0 d1 d2 d3 d4 hz0 hz1
   clear hpost hb hl1
   go_upto_region 4 with fail
   obtain ⟨a1, ha⟩ : ∃ q, y.alloc (.cells #[.int .i64 p.st, .slice Av1 nv1 cv1, .slice Ac1 nc1 cc1, .slice Ai1 ni1 ci1, .int .i64 p.sm, .int .i64 p.mo] 33) = q := ⟨_, rfl⟩
   have hAl : Below y.heap.size y a1 := by rw [← ha]; exact (Below.refl _ _).alloc (Nat.le_refl _) _
   have HS1 := hide (show a1.heap[y.heap.size]? = some (.cells #[.int .i64 p.st, .slice Av1 nv1 cv1, .slice Ac1 nc1 cc1, .slice Ai1 ni1 ci1, .int .i64 p.sm, .int .i64 p.mo] 33) by rw [← ha]; exact heap_alloc_last _ _)
   have sa1 : y.heap.size < a1.heap.size := by rw [← ha]; simp
   rw [ha]
   have HI1 := hide (hi1.next hAl)
   have KA := hide (KY.out.trans (hAl.mono KY.out.size))
   obtain ⟨T1, hT⟩ : ∃ q, y.heap.size = q := ⟨_, rfl⟩
   rw [hT] at HS1 sa1 ⊢
   clear ha hAl hi1 KY syy hT
   have c0 : a1.cell? ⟨w.heap.size, 0, none⟩ = some (.int .i64 V) := cell_of_row _ _ 0 _ _ _ ((KA.out.block _ hu0).trans HU.out.2.2.1)
   have c1 : a1.cell? ⟨w.heap.size, 1, none⟩ = some (.slice A L c) := cell_of_row _ _ 1 _ _ _ ((KA.out.block _ hu0).trans HU.out.2.2.1)
   have d0 : a1.cell? ⟨w.heap.size + 1, 0, none⟩ = some (.int .u8 k) := cell_of_row _ _ 0 _ _ _ ((KA.out.block _ hu1).trans HU.out.2.2.2)
   have d1 : a1.cell? ⟨w.heap.size + 1, 1, none⟩ = some (.int .i64 j1) := cell_of_row _ _ 1 _ _ _ ((KA.out.block _ hu1).trans HU.out.2.2.2)
   have d2 : a1.cell? ⟨w.heap.size + 1, 2, none⟩ = some (.int .i64 j2) := cell_of_row _ _ 2 _ _ _ ((KA.out.block _ hu1).trans HU.out.2.2.2)
   have d3 : a1.cell? ⟨w.heap.size + 1, 3, none⟩ = some (.int .i64 j3) := cell_of_row _ _ 3 _ _ _ ((KA.out.block _ hu1).trans HU.out.2.2.2)
   have d4 : a1.cell? ⟨w.heap.size + 1, 4, none⟩ = some (.int .i64 j4) := cell_of_row _ _ 4 _ _ _ ((KA.out.block _ hu1).trans HU.out.2.2.2)
   have hz0 : w.heap.size < a1.heap.size := by have := KA.out.size; omega
   have hz1 : w.heap.size + 1 < a1.heap.size := by have := KA.out.size; omega
   go_wp2_with fail
   refine (HD.out a1 KA.out).mono ?_
   intro e y hpost
   obtain ⟨Av2, Ac2, Ai2, nv2, nc2, ni2, cv2, cc2, ci2, he, hl2, hi2, hbx, m12, m22, m32⟩ := hpost.val HOK.out
   rw [hp] at he hl2 hi2
   subst he
   have HL2 := hide hl2
   have KY := hide (KA.out.trans (hbx.mono KA.out.size))
   have syy := KY.out.size
   clear c0 c1 d0 d1 d2 d3 d4 hz0 hz1
   clear hpost hl2
   go_upto_region 5 with fail
   obtain ⟨a2, ha⟩ : ∃ q, y.alloc (.cells #[.int .i64 p.st, .slice Av2 nv2 cv2, .slice Ac2 nc2 cc2, .slice Ai2 ni2 ci2, .int .i64 p.sm, .int .i64 p.mo] 33) = q := ⟨_, rfl⟩
   have hAl : Below y.heap.size y a2 := by rw [← ha]; exact (Below.refl _ _).alloc (Nat.le_refl _) _
   have HS2 := hide (show a2.heap[y.heap.size]? = some (.cells #[.int .i64 p.st, .slice Av2 nv2 cv2, .slice Ac2 nc2 cc2, .slice Ai2 ni2 ci2, .int .i64 p.sm, .int .i64 p.mo] 33) by rw [← ha]; exact heap_alloc_last _ _)
   have sa2 : y.heap.size < a2.heap.size := by rw [← ha]; simp
   rw [ha]
   have HI2 := hide (hi2.next hAl)
   have KB := hide (KY.out.trans (hAl.mono KY.out.size))
   obtain ⟨T2, hT⟩ : ∃ q, y.heap.size = q := ⟨_, rfl⟩
   have HAB : Hid (Below a1.heap.size a1 a2) := hide (hbx.trans (hAl.mono hbx.size))
   rw [hT] at HS2 sa2 ⊢
   clear ha hAl hi2 KY syy hT hbx
   have hT2 : T1 < a2.heap.size := by have := HAB.out.size; omega
   have x0 : a2.cell? ⟨T1, 0, none⟩ = some (.int .i64 p.st) := cell_of_row _ _ 0 _ _ _ ((HAB.out.block _ sa1).trans HS1.out)
   have x1 : a2.cell? ⟨T1, 1, none⟩ = some (.slice Av1 nv1 cv1) := cell_of_row _ _ 1 _ _ _ ((HAB.out.block _ sa1).trans HS1.out)
   have x2 : a2.cell? ⟨T1, 2, none⟩ = some (.slice Ac1 nc1 cc1) := cell_of_row _ _ 2 _ _ _ ((HAB.out.block _ sa1).trans HS1.out)
   have x3 : a2.cell? ⟨T1, 3, none⟩ = some (.slice Ai1 ni1 ci1) := cell_of_row _ _ 3 _ _ _ ((HAB.out.block _ sa1).trans HS1.out)
   have x4 : a2.cell? ⟨T1, 4, none⟩ = some (.int .i64 p.sm) := cell_of_row _ _ 4 _ _ _ ((HAB.out.block _ sa1).trans HS1.out)
   have x5 : a2.cell? ⟨T1, 5, none⟩ = some (.int .i64 p.mo) := cell_of_row _ _ 5 _ _ _ ((HAB.out.block _ sa1).trans HS1.out)
   have y0 : a2.cell? ⟨T2, 0, none⟩ = some (.int .i64 p.st) := cell_of_row _ _ 0 _ _ _ HS2.out
   have y1 : a2.cell? ⟨T2, 1, none⟩ = some (.slice Av2 nv2 cv2) := cell_of_row _ _ 1 _ _ _ HS2.out
   have y2 : a2.cell? ⟨T2, 2, none⟩ = some (.slice Ac2 nc2 cc2) := cell_of_row _ _ 2 _ _ _ HS2.out
   have y3 : a2.cell? ⟨T2, 3, none⟩ = some (.slice Ai2 ni2 ci2) := cell_of_row _ _ 3 _ _ _ HS2.out
   have y4 : a2.cell? ⟨T2, 4, none⟩ = some (.int .i64 p.sm) := cell_of_row _ _ 4 _ _ _ HS2.out
   have y5 : a2.cell? ⟨T2, 5, none⟩ = some (.int .i64 p.mo) := cell_of_row _ _ 5 _ _ _ HS2.out
   have hc1 := qrsame_any a2 p Av1 Ac1 Ai1 nv1 nc1 ni1 cv1 cc1 ci1 HL1.out (HI1.out.next HAB.out) p Av2 Ac2 Ai2 nv2 nc2 ni2 cv2 cc2 ci2 HL2.out HI2.out (by omega) (by omega) (by omega)
   rw [sameV_rfl] at hc1
   have HC1 := hide hc1
   clear hc1
   go_wp2_with fail
   refine HC1.out.mono ?_
   rintro e n1 ⟨rfl, hn⟩
   have N1 := hide hn
   have sn1 : a2.heap.size ≤ n1.heap.size := hn.size
   clear hn x0 y0 x1 y1 x2 y2 x3 y3 x4 y4 x5 y5
   have KN := hide (KB.out.trans (N1.out.mono KB.out.size))
   have x0 : n1.cell? ⟨T1, 0, none⟩ = some (.int .i64 p.st) := cell_of_row _ _ 0 _ _ _ ((N1.out.block _ hT2).trans ((HAB.out.block _ sa1).trans HS1.out))
   have x1 : n1.cell? ⟨T1, 1, none⟩ = some (.slice Av1 nv1 cv1) := cell_of_row _ _ 1 _ _ _ ((N1.out.block _ hT2).trans ((HAB.out.block _ sa1).trans HS1.out))
   have x2 : n1.cell? ⟨T1, 2, none⟩ = some (.slice Ac1 nc1 cc1) := cell_of_row _ _ 2 _ _ _ ((N1.out.block _ hT2).trans ((HAB.out.block _ sa1).trans HS1.out))
   have x3 : n1.cell? ⟨T1, 3, none⟩ = some (.slice Ai1 ni1 ci1) := cell_of_row _ _ 3 _ _ _ ((N1.out.block _ hT2).trans ((HAB.out.block _ sa1).trans HS1.out))
   have x4 : n1.cell? ⟨T1, 4, none⟩ = some (.int .i64 p.sm) := cell_of_row _ _ 4 _ _ _ ((N1.out.block _ hT2).trans ((HAB.out.block _ sa1).trans HS1.out))
   have x5 : n1.cell? ⟨T1, 5, none⟩ = some (.int .i64 p.mo) := cell_of_row _ _ 5 _ _ _ ((N1.out.block _ hT2).trans ((HAB.out.block _ sa1).trans HS1.out))
   have y0 : n1.cell? ⟨T2, 0, none⟩ = some (.int .i64 p.st) := cell_of_row _ _ 0 _ _ _ ((N1.out.block _ sa2).trans HS2.out)
   have y1 : n1.cell? ⟨T2, 1, none⟩ = some (.slice Av2 nv2 cv2) := cell_of_row _ _ 1 _ _ _ ((N1.out.block _ sa2).trans HS2.out)
   have y2 : n1.cell? ⟨T2, 2, none⟩ = some (.slice Ac2 nc2 cc2) := cell_of_row _ _ 2 _ _ _ ((N1.out.block _ sa2).trans HS2.out)
   have y3 : n1.cell? ⟨T2, 3, none⟩ = some (.slice Ai2 ni2 ci2) := cell_of_row _ _ 3 _ _ _ ((N1.out.block _ sa2).trans HS2.out)
   have y4 : n1.cell? ⟨T2, 4, none⟩ = some (.int .i64 p.sm) := cell_of_row _ _ 4 _ _ _ ((N1.out.block _ sa2).trans HS2.out)
   have y5 : n1.cell? ⟨T2, 5, none⟩ = some (.int .i64 p.mo) := cell_of_row _ _ 5 _ _ _ ((N1.out.block _ sa2).trans HS2.out)
   have hT3 : T1 < n1.heap.size := by omega
   have hT4 : T2 < n1.heap.size := by omega
   have hc2 := qsame_any n1 p Av1 Ac1 Ai1 nv1 nc1 ni1 cv1 cc1 ci1 HL1.out ((HI1.out.next HAB.out).next N1.out) p Av2 Ac2 Ai2 nv2 nc2 ni2 cv2 cc2 ci2 HL2.out (HI2.out.next N1.out) (by omega) (by omega) (by omega)
   rw [sameV_rfl] at hc2
   have HC2 := hide hc2
   clear hc2
   go_wp2_with fail
   refine HC2.out.mono ?_
   rintro e n2 ⟨rfl, hn⟩
   have KM := hide (KN.out.trans (hn.mono KN.out.size))
   clear hn x0 y0 x1 y1 x2 y2 x3 y3 x4 y4 x5 y5
   go_wp2_with fail
   refine (works_any _).mono ?_
   rintro e zz ⟨rfl, hzz⟩
   have HZ := hide (HU.out.1.trans ((KM.out.trans (hzz.mono KM.out.size)).mono (by omega)))
   clear hzz
   go_wp2
   go_ret
   exact ⟨rfl, HZ.out⟩
  ·have hq1' : 40 < j1 := by omega
   by_cases hq2 : j1 ≤ 2000
   ·have HV := hide hv
    have hlq := lightq_any u V A es L c HL.out (by omega) ((HE.out.below HU.out.1 (Nat.le_refl _)).more HU.out.1.size)
    rw [hv] at hlq
    have HLQ := hide hlq
    clear hlq
    clear hv
    have c0 : u.cell? ⟨w.heap.size, 0, none⟩ = some (.int .i64 V) := cell_of_row _ _ 0 _ _ _ ((K0.out.block _ hu0).trans HU.out.2.2.1)
    have c1 : u.cell? ⟨w.heap.size, 1, none⟩ = some (.slice A L c) := cell_of_row _ _ 1 _ _ _ ((K0.out.block _ hu0).trans HU.out.2.2.1)
    have d0 : u.cell? ⟨w.heap.size + 1, 0, none⟩ = some (.int .u8 k) := cell_of_row _ _ 0 _ _ _ ((K0.out.block _ hu1).trans HU.out.2.2.2)
    have d1 : u.cell? ⟨w.heap.size + 1, 1, none⟩ = some (.int .i64 j1) := cell_of_row _ _ 1 _ _ _ ((K0.out.block _ hu1).trans HU.out.2.2.2)
    have d2 : u.cell? ⟨w.heap.size + 1, 2, none⟩ = some (.int .i64 j2) := cell_of_row _ _ 2 _ _ _ ((K0.out.block _ hu1).trans HU.out.2.2.2)
    have d3 : u.cell? ⟨w.heap.size + 1, 3, none⟩ = some (.int .i64 j3) := cell_of_row _ _ 3 _ _ _ ((K0.out.block _ hu1).trans HU.out.2.2.2)
    have d4 : u.cell? ⟨w.heap.size + 1, 4, none⟩ = some (.int .i64 j4) := cell_of_row _ _ 4 _ _ _ ((K0.out.block _ hu1).trans HU.out.2.2.2)
    have hz0 : w.heap.size < u.heap.size := by have := K0.out.size; omega
    have hz1 : w.heap.size + 1 < u.heap.size := by have := K0.out.size; omega
    go_enter Tryz.func6, Tryz.ntmps6
    go_upto_region 1 with fail
    rw [HUe.out]
    go_wp2_with fail
    refine HLQ.out.mono ?_
    rintro e v1 ⟨rfl, hb⟩
    have K1 : Hid (Below u.heap.size u v1) := hide hb
    have sv1 : u.heap.size ≤ v1.heap.size := hb.size
    clear hb
    clear c0 c1 d0 d1 d2 d3 d4 hz0 hz1
    have c0 : v1.cell? ⟨w.heap.size, 0, none⟩ = some (.int .i64 V) := cell_of_row _ _ 0 _ _ _ ((K1.out.block _ hu0).trans HU.out.2.2.1)
    have c1 : v1.cell? ⟨w.heap.size, 1, none⟩ = some (.slice A L c) := cell_of_row _ _ 1 _ _ _ ((K1.out.block _ hu0).trans HU.out.2.2.1)
    have d0 : v1.cell? ⟨w.heap.size + 1, 0, none⟩ = some (.int .u8 k) := cell_of_row _ _ 0 _ _ _ ((K1.out.block _ hu1).trans HU.out.2.2.2)
    have d1 : v1.cell? ⟨w.heap.size + 1, 1, none⟩ = some (.int .i64 j1) := cell_of_row _ _ 1 _ _ _ ((K1.out.block _ hu1).trans HU.out.2.2.2)
    have d2 : v1.cell? ⟨w.heap.size + 1, 2, none⟩ = some (.int .i64 j2) := cell_of_row _ _ 2 _ _ _ ((K1.out.block _ hu1).trans HU.out.2.2.2)
    have d3 : v1.cell? ⟨w.heap.size + 1, 3, none⟩ = some (.int .i64 j3) := cell_of_row _ _ 3 _ _ _ ((K1.out.block _ hu1).trans HU.out.2.2.2)
    have d4 : v1.cell? ⟨w.heap.size + 1, 4, none⟩ = some (.int .i64 j4) := cell_of_row _ _ 4 _ _ _ ((K1.out.block _ hu1).trans HU.out.2.2.2)
    have hz0 : w.heap.size < v1.heap.size := by have := K1.out.size; omega
    have hz1 : w.heap.size + 1 < v1.heap.size := by have := K1.out.size; omega
    go_wp2_with fail
    refine (works_any _).mono ?_
    rintro e zz ⟨rfl, hzz⟩
    have HZ := hide (HU.out.1.trans ((K1.out.trans (hzz.mono K1.out.size)).mono (by omega)))
    clear hzz
    go_wp2
    go_ret
    exact ⟨rfl, HZ.out⟩
   ·have HV := hide hv
    have hlq := lightq_any u V A es L c HL.out (by omega) ((HE.out.below HU.out.1 (Nat.le_refl _)).more HU.out.1.size)
    rw [hv] at hlq
    have HLQ := hide hlq
    clear hlq
    have hL8 : L ≤ 80 := by have := lit12_le hv; have := HL.out; omega
    clear hv
    obtain ⟨E, hEe⟩ : ∃ q, (acheckF k j1 j2 j3 j4 V es) = q := ⟨_, rfl⟩
    obtain ⟨s, hse⟩ : ∃ q, (atV k j2 j3 es V.toNat (runN k j1 j2 j3 j4 es V.toNat)) = q := ⟨_, rfl⟩
    obtain ⟨Vn, hVn⟩ : ∃ q, V.toNat = q := ⟨_, rfl⟩
    have HOK : Hid (E = 0 → OkS Vn s ∧ Vn ≤ 512) := hide (fun h0 => by
     have hch : acheckF k j1 j2 j3 j4 V es = 0 := by rw [hEe]; exact h0
     have hok := acheck_ok hch
     rw [← hse, ← hVn]
     exact ⟨atV_ok (by omega) hok.1.2.2 _, by omega⟩)
    have HA := hide (fun (x : World) (hx : Below u.heap.size u x) => qrun_any x V A es L c HL.out (by omega) ((HE.out.below (HU.out.1.trans (hx.mono (by omega))) (Nat.le_refl _)).more (HU.out.1.trans (hx.mono (by omega))).size) k j1 j2 j3 j4 (fun _ => hL8))
    have HD := hide (fun (x : World) (hx : Below u.heap.size u x) => qrrun_any x V A es L c HL.out (by omega) ((HE.out.below (HU.out.1.trans (hx.mono (by omega))) (Nat.le_refl _)).more (HU.out.1.trans (hx.mono (by omega))).size) k j1 j2 j3 j4 (fun _ => hL8))
    rw [hse, hEe, hVn] at HA HD
    obtain ⟨p, hp⟩ : ∃ q, resV E s = q := ⟨_, rfl⟩
    clear hEe hse hVn
    have c0 : u.cell? ⟨w.heap.size, 0, none⟩ = some (.int .i64 V) := cell_of_row _ _ 0 _ _ _ ((K0.out.block _ hu0).trans HU.out.2.2.1)
    have c1 : u.cell? ⟨w.heap.size, 1, none⟩ = some (.slice A L c) := cell_of_row _ _ 1 _ _ _ ((K0.out.block _ hu0).trans HU.out.2.2.1)
    have d0 : u.cell? ⟨w.heap.size + 1, 0, none⟩ = some (.int .u8 k) := cell_of_row _ _ 0 _ _ _ ((K0.out.block _ hu1).trans HU.out.2.2.2)
    have d1 : u.cell? ⟨w.heap.size + 1, 1, none⟩ = some (.int .i64 j1) := cell_of_row _ _ 1 _ _ _ ((K0.out.block _ hu1).trans HU.out.2.2.2)
    have d2 : u.cell? ⟨w.heap.size + 1, 2, none⟩ = some (.int .i64 j2) := cell_of_row _ _ 2 _ _ _ ((K0.out.block _ hu1).trans HU.out.2.2.2)
    have d3 : u.cell? ⟨w.heap.size + 1, 3, none⟩ = some (.int .i64 j3) := cell_of_row _ _ 3 _ _ _ ((K0.out.block _ hu1).trans HU.out.2.2.2)
    have d4 : u.cell? ⟨w.heap.size + 1, 4, none⟩ = some (.int .i64 j4) := cell_of_row _ _ 4 _ _ _ ((K0.out.block _ hu1).trans HU.out.2.2.2)
    have hz0 : w.heap.size < u.heap.size := by have := K0.out.size; omega
    have hz1 : w.heap.size + 1 < u.heap.size := by have := K0.out.size; omega
    go_enter Tryz.func6, Tryz.ntmps6
    go_upto_region 1 with fail
    rw [HUe.out]
    go_wp2_with fail
    refine HLQ.out.mono ?_
    rintro e v1 ⟨rfl, hb⟩
    have K1 : Hid (Below u.heap.size u v1) := hide hb
    have sv1 : u.heap.size ≤ v1.heap.size := hb.size
    clear hb
    clear c0 c1 d0 d1 d2 d3 d4 hz0 hz1
    have c0 : v1.cell? ⟨w.heap.size, 0, none⟩ = some (.int .i64 V) := cell_of_row _ _ 0 _ _ _ ((K1.out.block _ hu0).trans HU.out.2.2.1)
    have c1 : v1.cell? ⟨w.heap.size, 1, none⟩ = some (.slice A L c) := cell_of_row _ _ 1 _ _ _ ((K1.out.block _ hu0).trans HU.out.2.2.1)
    have d0 : v1.cell? ⟨w.heap.size + 1, 0, none⟩ = some (.int .u8 k) := cell_of_row _ _ 0 _ _ _ ((K1.out.block _ hu1).trans HU.out.2.2.2)
    have d1 : v1.cell? ⟨w.heap.size + 1, 1, none⟩ = some (.int .i64 j1) := cell_of_row _ _ 1 _ _ _ ((K1.out.block _ hu1).trans HU.out.2.2.2)
    have d2 : v1.cell? ⟨w.heap.size + 1, 2, none⟩ = some (.int .i64 j2) := cell_of_row _ _ 2 _ _ _ ((K1.out.block _ hu1).trans HU.out.2.2.2)
    have d3 : v1.cell? ⟨w.heap.size + 1, 3, none⟩ = some (.int .i64 j3) := cell_of_row _ _ 3 _ _ _ ((K1.out.block _ hu1).trans HU.out.2.2.2)
    have d4 : v1.cell? ⟨w.heap.size + 1, 4, none⟩ = some (.int .i64 j4) := cell_of_row _ _ 4 _ _ _ ((K1.out.block _ hu1).trans HU.out.2.2.2)
    have hz0 : w.heap.size < v1.heap.size := by have := K1.out.size; omega
    have hz1 : w.heap.size + 1 < v1.heap.size := by have := K1.out.size; omega
    go_wp2_with fail
    refine (HA.out v1 K1.out).mono ?_
    intro e y hpost
    obtain ⟨Av1, Ac1, Ai1, nv1, nc1, ni1, cv1, cc1, ci1, he, hl1, hi1, hb, m11, m21, m31⟩ := hpost.val HOK.out
    rw [hp] at he hl1 hi1
    subst he
    have HL1 := hide hl1
    have KY := hide (K1.out.trans (hb.mono K1.out.size))
    have syy := KY.out.size
    clear c0 c1 d0 d1 d2 d3 d4 hz0 hz1
    clear hpost hb hl1
    go_upto_region 4 with fail
    obtain ⟨a1, ha⟩ : ∃ q, y.alloc (.cells #[.int .i64 p.st, .slice Av1 nv1 cv1, .slice Ac1 nc1 cc1, .slice Ai1 ni1 ci1, .int .i64 p.sm, .int .i64 p.mo] 33) = q := ⟨_, rfl⟩
    have hAl : Below y.heap.size y a1 := by rw [← ha]; exact (Below.refl _ _).alloc (Nat.le_refl _) _
    have HS1 := hide (show a1.heap[y.heap.size]? = some (.cells #[.int .i64 p.st, .slice Av1 nv1 cv1, .slice Ac1 nc1 cc1, .slice Ai1 ni1 ci1, .int .i64 p.sm, .int .i64 p.mo] 33) by rw [← ha]; exact heap_alloc_last _ _)
    have sa1 : y.heap.size < a1.heap.size := by rw [← ha]; simp
    rw [ha]
    have HI1 := hide (hi1.next hAl)
    have KA := hide (KY.out.trans (hAl.mono KY.out.size))
    obtain ⟨T1, hT⟩ : ∃ q, y.heap.size = q := ⟨_, rfl⟩
    rw [hT] at HS1 sa1 ⊢
    clear ha hAl hi1 KY syy hT
    have c0 : a1.cell? ⟨w.heap.size, 0, none⟩ = some (.int .i64 V) := cell_of_row _ _ 0 _ _ _ ((KA.out.block _ hu0).trans HU.out.2.2.1)
    have c1 : a1.cell? ⟨w.heap.size, 1, none⟩ = some (.slice A L c) := cell_of_row _ _ 1 _ _ _ ((KA.out.block _ hu0).trans HU.out.2.2.1)
    have d0 : a1.cell? ⟨w.heap.size + 1, 0, none⟩ = some (.int .u8 k) := cell_of_row _ _ 0 _ _ _ ((KA.out.block _ hu1).trans HU.out.2.2.2)
    have d1 : a1.cell? ⟨w.heap.size + 1, 1, none⟩ = some (.int .i64 j1) := cell_of_row _ _ 1 _ _ _ ((KA.out.block _ hu1).trans HU.out.2.2.2)
    have d2 : a1.cell? ⟨w.heap.size + 1, 2, none⟩ = some (.int .i64 j2) := cell_of_row _ _ 2 _ _ _ ((KA.out.block _ hu1).trans HU.out.2.2.2)
    have d3 : a1.cell? ⟨w.heap.size + 1, 3, none⟩ = some (.int .i64 j3) := cell_of_row _ _ 3 _ _ _ ((KA.out.block _ hu1).trans HU.out.2.2.2)
    have d4 : a1.cell? ⟨w.heap.size + 1, 4, none⟩ = some (.int .i64 j4) := cell_of_row _ _ 4 _ _ _ ((KA.out.block _ hu1).trans HU.out.2.2.2)
    have hz0 : w.heap.size < a1.heap.size := by have := KA.out.size; omega
    have hz1 : w.heap.size + 1 < a1.heap.size := by have := KA.out.size; omega
    go_wp2_with fail
    refine (HD.out a1 KA.out).mono ?_
    intro e y hpost
    obtain ⟨Av2, Ac2, Ai2, nv2, nc2, ni2, cv2, cc2, ci2, he, hl2, hi2, hbx, m12, m22, m32⟩ := hpost.val HOK.out
    rw [hp] at he hl2 hi2
    subst he
    have HL2 := hide hl2
    have KY := hide (KA.out.trans (hbx.mono KA.out.size))
    have syy := KY.out.size
    clear c0 c1 d0 d1 d2 d3 d4 hz0 hz1
    clear hpost hl2
    go_upto_region 5 with fail
    obtain ⟨a2, ha⟩ : ∃ q, y.alloc (.cells #[.int .i64 p.st, .slice Av2 nv2 cv2, .slice Ac2 nc2 cc2, .slice Ai2 ni2 ci2, .int .i64 p.sm, .int .i64 p.mo] 33) = q := ⟨_, rfl⟩
    have hAl : Below y.heap.size y a2 := by rw [← ha]; exact (Below.refl _ _).alloc (Nat.le_refl _) _
    have HS2 := hide (show a2.heap[y.heap.size]? = some (.cells #[.int .i64 p.st, .slice Av2 nv2 cv2, .slice Ac2 nc2 cc2, .slice Ai2 ni2 ci2, .int .i64 p.sm, .int .i64 p.mo] 33) by rw [← ha]; exact heap_alloc_last _ _)
    have sa2 : y.heap.size < a2.heap.size := by rw [← ha]; simp
    rw [ha]
    have HI2 := hide (hi2.next hAl)
    have KB := hide (KY.out.trans (hAl.mono KY.out.size))
    obtain ⟨T2, hT⟩ : ∃ q, y.heap.size = q := ⟨_, rfl⟩
    have HAB : Hid (Below a1.heap.size a1 a2) := hide (hbx.trans (hAl.mono hbx.size))
    rw [hT] at HS2 sa2 ⊢
    clear ha hAl hi2 KY syy hT hbx
    have hT2 : T1 < a2.heap.size := by have := HAB.out.size; omega
    have x0 : a2.cell? ⟨T1, 0, none⟩ = some (.int .i64 p.st) := cell_of_row _ _ 0 _ _ _ ((HAB.out.block _ sa1).trans HS1.out)
    have x1 : a2.cell? ⟨T1, 1, none⟩ = some (.slice Av1 nv1 cv1) := cell_of_row _ _ 1 _ _ _ ((HAB.out.block _ sa1).trans HS1.out)
    have x2 : a2.cell? ⟨T1, 2, none⟩ = some (.slice Ac1 nc1 cc1) := cell_of_row _ _ 2 _ _ _ ((HAB.out.block _ sa1).trans HS1.out)
    have x3 : a2.cell? ⟨T1, 3, none⟩ = some (.slice Ai1 ni1 ci1) := cell_of_row _ _ 3 _ _ _ ((HAB.out.block _ sa1).trans HS1.out)
    have x4 : a2.cell? ⟨T1, 4, none⟩ = some (.int .i64 p.sm) := cell_of_row _ _ 4 _ _ _ ((HAB.out.block _ sa1).trans HS1.out)
    have x5 : a2.cell? ⟨T1, 5, none⟩ = some (.int .i64 p.mo) := cell_of_row _ _ 5 _ _ _ ((HAB.out.block _ sa1).trans HS1.out)
    have y0 : a2.cell? ⟨T2, 0, none⟩ = some (.int .i64 p.st) := cell_of_row _ _ 0 _ _ _ HS2.out
    have y1 : a2.cell? ⟨T2, 1, none⟩ = some (.slice Av2 nv2 cv2) := cell_of_row _ _ 1 _ _ _ HS2.out
    have y2 : a2.cell? ⟨T2, 2, none⟩ = some (.slice Ac2 nc2 cc2) := cell_of_row _ _ 2 _ _ _ HS2.out
    have y3 : a2.cell? ⟨T2, 3, none⟩ = some (.slice Ai2 ni2 ci2) := cell_of_row _ _ 3 _ _ _ HS2.out
    have y4 : a2.cell? ⟨T2, 4, none⟩ = some (.int .i64 p.sm) := cell_of_row _ _ 4 _ _ _ HS2.out
    have y5 : a2.cell? ⟨T2, 5, none⟩ = some (.int .i64 p.mo) := cell_of_row _ _ 5 _ _ _ HS2.out
    have hc1 := qrsame_any a2 p Av1 Ac1 Ai1 nv1 nc1 ni1 cv1 cc1 ci1 HL1.out (HI1.out.next HAB.out) p Av2 Ac2 Ai2 nv2 nc2 ni2 cv2 cc2 ci2 HL2.out HI2.out (by omega) (by omega) (by omega)
    rw [sameV_rfl] at hc1
    have HC1 := hide hc1
    clear hc1
    go_wp2_with fail
    refine HC1.out.mono ?_
    rintro e n1 ⟨rfl, hn⟩
    have N1 := hide hn
    have sn1 : a2.heap.size ≤ n1.heap.size := hn.size
    clear hn x0 y0 x1 y1 x2 y2 x3 y3 x4 y4 x5 y5
    have KN := hide (KB.out.trans (N1.out.mono KB.out.size))
    have x0 : n1.cell? ⟨T1, 0, none⟩ = some (.int .i64 p.st) := cell_of_row _ _ 0 _ _ _ ((N1.out.block _ hT2).trans ((HAB.out.block _ sa1).trans HS1.out))
    have x1 : n1.cell? ⟨T1, 1, none⟩ = some (.slice Av1 nv1 cv1) := cell_of_row _ _ 1 _ _ _ ((N1.out.block _ hT2).trans ((HAB.out.block _ sa1).trans HS1.out))
    have x2 : n1.cell? ⟨T1, 2, none⟩ = some (.slice Ac1 nc1 cc1) := cell_of_row _ _ 2 _ _ _ ((N1.out.block _ hT2).trans ((HAB.out.block _ sa1).trans HS1.out))
    have x3 : n1.cell? ⟨T1, 3, none⟩ = some (.slice Ai1 ni1 ci1) := cell_of_row _ _ 3 _ _ _ ((N1.out.block _ hT2).trans ((HAB.out.block _ sa1).trans HS1.out))
    have x4 : n1.cell? ⟨T1, 4, none⟩ = some (.int .i64 p.sm) := cell_of_row _ _ 4 _ _ _ ((N1.out.block _ hT2).trans ((HAB.out.block _ sa1).trans HS1.out))
    have x5 : n1.cell? ⟨T1, 5, none⟩ = some (.int .i64 p.mo) := cell_of_row _ _ 5 _ _ _ ((N1.out.block _ hT2).trans ((HAB.out.block _ sa1).trans HS1.out))
    have y0 : n1.cell? ⟨T2, 0, none⟩ = some (.int .i64 p.st) := cell_of_row _ _ 0 _ _ _ ((N1.out.block _ sa2).trans HS2.out)
    have y1 : n1.cell? ⟨T2, 1, none⟩ = some (.slice Av2 nv2 cv2) := cell_of_row _ _ 1 _ _ _ ((N1.out.block _ sa2).trans HS2.out)
    have y2 : n1.cell? ⟨T2, 2, none⟩ = some (.slice Ac2 nc2 cc2) := cell_of_row _ _ 2 _ _ _ ((N1.out.block _ sa2).trans HS2.out)
    have y3 : n1.cell? ⟨T2, 3, none⟩ = some (.slice Ai2 ni2 ci2) := cell_of_row _ _ 3 _ _ _ ((N1.out.block _ sa2).trans HS2.out)
    have y4 : n1.cell? ⟨T2, 4, none⟩ = some (.int .i64 p.sm) := cell_of_row _ _ 4 _ _ _ ((N1.out.block _ sa2).trans HS2.out)
    have y5 : n1.cell? ⟨T2, 5, none⟩ = some (.int .i64 p.mo) := cell_of_row _ _ 5 _ _ _ ((N1.out.block _ sa2).trans HS2.out)
    have hT3 : T1 < n1.heap.size := by omega
    have hT4 : T2 < n1.heap.size := by omega
    have hc2 := qsame_any n1 p Av1 Ac1 Ai1 nv1 nc1 ni1 cv1 cc1 ci1 HL1.out ((HI1.out.next HAB.out).next N1.out) p Av2 Ac2 Ai2 nv2 nc2 ni2 cv2 cc2 ci2 HL2.out (HI2.out.next N1.out) (by omega) (by omega) (by omega)
    rw [sameV_rfl] at hc2
    have HC2 := hide hc2
    clear hc2
    go_wp2_with fail
    refine HC2.out.mono ?_
    rintro e n2 ⟨rfl, hn⟩
    have KM := hide (KN.out.trans (hn.mono KN.out.size))
    clear hn x0 y0 x1 y1 x2 y2 x3 y3 x4 y4 x5 y5
    go_wp2_with fail
    refine (works_any _).mono ?_
    rintro e zz ⟨rfl, hzz⟩
    have HZ := hide (HU.out.1.trans ((KM.out.trans (hzz.mono KM.out.size)).mono (by omega)))
    clear hzz
    go_wp2
    go_ret
    exact ⟨rfl, HZ.out⟩
end Go.Proofs.YtpgbjabifhjogaaGreat

/- The document's At and Run. -/
import Derived.Test.YtpgbjabifhjogaaGreatSeqRunw40
namespace Go.Proofs.YtpgbjabifhjogaaGreat
open Go.RowKit Go.Shelf
attribute [local go_sem] Oper.semAt_some
set_option linter.unusedVariables false
set_option linter.unusedSimpArgs false
set_option maxRecDepth 100000 in
set_option maxHeartbeats 8000000 in
theorem qrrun_any (w : World) (V : Int) (A : Option Addr) (es : List Ed) (L c : Nat) (hL : es.length = L) (hL9 : L ≤ 9223372036854775807) (hE : Eds w w.heap.size A es) (k j1 j2 j3 j4 : Int)  (hG : acheckF k j1 j2 j3 j4 V es = 0 → L ≤ 80) :
  Calls Tryz.prog 22 #[.agg #[.int .i64 V, .slice A L c], .agg #[.int .u8 k, .int .i64 j1, .int .i64 j2, .int .i64 j3, .int .i64 j4]] w (TillPost w (acheckF k j1 j2 j3 j4 V es) V.toNat (atV k j2 j3 es V.toNat (runN k j1 j2 j3 j4 es V.toNat))) := by
 have HL := hide hL
 have HE := hide hE
 have HG := hide hG
 clear hL hE hG
 obtain ⟨E, hEe⟩ : ∃ E, acheckF k j1 j2 j3 j4 V es = E := ⟨_, rfl⟩
 have HEe := hide hEe
 clear hEe
 by_cases hE0 : E = 0
 rotate_left
 ·have hE1 : (E == 0) = false := by simpa using hE0
  have hE2 : (E != 0) = true := by simpa using hE0
  have HN0 := hide hE0
  clear hE0
  rw [HEe.out]
  go_enter Tryz.func22, Tryz.ntmps22
  go_upto_region 1 with fail
  obtain ⟨u, hu⟩ : ∃ u, ((w.alloc (.cells #[.int .i64 V, .slice A L c] 24)).alloc (.cells #[.int .u8 k, .int .i64 j1, .int .i64 j2, .int .i64 j3, .int .i64 j4] 26)).alloc (.cells #[.int .i64 0, .slice none 0 0, .slice none 0 0, .slice none 0 0, .int .i64 0, .int .i64 0] 33) = u := ⟨_, rfl⟩
  rw [hu]
  have HU := hide (allocs3 hu)
  clear hu
  have hzu : u.heap.size = w.heap.size + 3 := HU.out.2.1
  have c0 : u.cell? ⟨w.heap.size, 0, none⟩ = some (.int .i64 V) := cell_of_row _ _ 0 _ _ _ HU.out.2.2.1
  have c1 : u.cell? ⟨w.heap.size, 1, none⟩ = some (.slice A L c) := cell_of_row _ _ 1 _ _ _ HU.out.2.2.1
  have d0 : u.cell? ⟨w.heap.size + 1, 0, none⟩ = some (.int .u8 k) := cell_of_row _ _ 0 _ _ _ HU.out.2.2.2.1
  have d1 : u.cell? ⟨w.heap.size + 1, 1, none⟩ = some (.int .i64 j1) := cell_of_row _ _ 1 _ _ _ HU.out.2.2.2.1
  have d2 : u.cell? ⟨w.heap.size + 1, 2, none⟩ = some (.int .i64 j2) := cell_of_row _ _ 2 _ _ _ HU.out.2.2.2.1
  have d3 : u.cell? ⟨w.heap.size + 1, 3, none⟩ = some (.int .i64 j3) := cell_of_row _ _ 3 _ _ _ HU.out.2.2.2.1
  have d4 : u.cell? ⟨w.heap.size + 1, 4, none⟩ = some (.int .i64 j4) := cell_of_row _ _ 4 _ _ _ HU.out.2.2.2.1
  have hz0 : w.heap.size < u.heap.size := by omega
  have hz1 : w.heap.size + 1 < u.heap.size := by omega
  have hst := qrstart_any u V A es L c HL.out hL9 ((HE.out.below HU.out.1 (Nat.le_refl _)).more HU.out.1.size) k j1 j2 j3 j4 HG.out
  rw [HEe.out] at hst
  have HST := hide hst
  clear hst
  go_wp2_with fail
  refine HST.out.mono ?_
  rintro e y (⟨_, rfl, hb⟩ | ⟨h0, _⟩)
  rotate_left
  ·exact absurd h0 HN0.out
  have HB := hide hb
  have syu : u.heap.size ≤ y.heap.size := hb.size
  clear hb
  clear c0 c1 d0 d1 d2 d3 d4 hz0 hz1
  go_upto_region 2 with fail
  obtain ⟨z0, hz0'⟩ : ∃ q, y.alloc (.cells #[.int .i64 0, .slice none 0 0, .slice none 0 0, .slice none 0 0, .int .i64 0, .int .i64 0] 33) = q := ⟨_, rfl⟩
  have hS0 : z0.heap[y.heap.size]? = some (.cells #[.int .i64 0, .slice none 0 0, .slice none 0 0, .slice none 0 0, .int .i64 0, .int .i64 0] 33) := by rw [← hz0']; exact heap_alloc_last _ _
  have hB0 : Below y.heap.size y z0 := by rw [← hz0']; exact (Below.refl _ _).alloc (Nat.le_refl _) _
  have hsz : y.heap.size < z0.heap.size := by rw [← hz0']; simp
  rw [hz0']
  have HRow := hide ((hB0.block (w.heap.size + 2) (by omega)).trans ((HB.out.block (w.heap.size + 2) (by omega)).trans HU.out.2.2.2.2))
  have HBw := hide ((HU.out.1.trans (HB.out.mono (by omega))).trans (hB0.mono (by omega)))
  clear hS0 hB0 hz0'
  have hRz : w.heap.size + 1 + 1 < z0.heap.size := by omega
  have q0 : z0.cell? ⟨w.heap.size + 1 + 1, 0, none⟩ = some (.int .i64 0) := cell_of_row _ _ 0 _ _ _ HRow.out
  have q1 : z0.cell? ⟨w.heap.size + 1 + 1, 1, none⟩ = some (.slice none 0 0) := cell_of_row _ _ 1 _ _ _ HRow.out
  have q2 : z0.cell? ⟨w.heap.size + 1 + 1, 2, none⟩ = some (.slice none 0 0) := cell_of_row _ _ 2 _ _ _ HRow.out
  have q3 : z0.cell? ⟨w.heap.size + 1 + 1, 3, none⟩ = some (.slice none 0 0) := cell_of_row _ _ 3 _ _ _ HRow.out
  have q4 : z0.cell? ⟨w.heap.size + 1 + 1, 4, none⟩ = some (.int .i64 0) := cell_of_row _ _ 4 _ _ _ HRow.out
  have q5 : z0.cell? ⟨w.heap.size + 1 + 1, 5, none⟩ = some (.int .i64 0) := cell_of_row _ _ 5 _ _ _ HRow.out
  have f0 : z0.frozen? ⟨w.heap.size + 1 + 1, 0, none⟩ = false := frozen_of_row _ _ 0 _ _ HRow.out
  have f1 : z0.frozen? ⟨w.heap.size + 1 + 1, 1, none⟩ = false := frozen_of_row _ _ 1 _ _ HRow.out
  have f2 : z0.frozen? ⟨w.heap.size + 1 + 1, 2, none⟩ = false := frozen_of_row _ _ 2 _ _ HRow.out
  have f3 : z0.frozen? ⟨w.heap.size + 1 + 1, 3, none⟩ = false := frozen_of_row _ _ 3 _ _ HRow.out
  have f4 : z0.frozen? ⟨w.heap.size + 1 + 1, 4, none⟩ = false := frozen_of_row _ _ 4 _ _ HRow.out
  have f5 : z0.frozen? ⟨w.heap.size + 1 + 1, 5, none⟩ = false := frozen_of_row _ _ 5 _ _ HRow.out
  go_wp2
  obtain ⟨wf, hwf⟩ : ∃ q, (((((z0.setCell ⟨w.heap.size + 1 + 1, 0, none⟩ (.int .i64 0)).setCell ⟨w.heap.size + 1 + 1, 1, none⟩ (.slice none 0 0)).setCell ⟨w.heap.size + 1 + 1, 2, none⟩ (.slice none 0 0)).setCell ⟨w.heap.size + 1 + 1, 3, none⟩ (.slice none 0 0)).setCell ⟨w.heap.size + 1 + 1, 4, none⟩ (.int .i64 0)).setCell ⟨w.heap.size + 1 + 1, 5, none⟩ (.int .i64 0) = q := ⟨_, rfl⟩
  have hF := far6 z0 (w.heap.size + 1 + 1) (w.heap.size + 1 + 1) (.int .i64 0) (.slice none 0 0) (.slice none 0 0) (.slice none 0 0) (.int .i64 0) (.int .i64 0) HRow.out
  rw [hwf] at hF ⊢
  obtain ⟨FF, HY⟩ := hF
  obtain ⟨y0, y1, y2, y3, y4, y5⟩ := cells6 HY
  clear hwf HY
  exact bodyPost_ret (v := .tuple #[.agg #[.int .i64 0, .slice none 0 0, .slice none 0 0, .slice none 0 0, .int .i64 0, .int .i64 0], .int .i64 E]) (by simp [results, Tryz.results22, go_sem, y0, y1, y2, y3, y4, y5]) rfl (.inl ⟨HN0.out, rfl, HBw.out.trans (FF.below (by omega) (by omega))⟩)
 ·subst hE0
  have HEe0 := HEe.out
  obtain ⟨⟨hV1, hV, hEB⟩, hk, hj0, hj1⟩ := acheck_ok HEe0
  have hL5 := HG.out HEe0
  clear HEe0
  rw [show (acheckF k j1 j2 j3 j4 V es) = 0 by rw [HEe.out]]
  obtain ⟨V, rfl⟩ : ∃ q : Nat, V = (q : Int) := ⟨V.toNat, by omega⟩
  rw [show ((V : Int)).toNat = V from rfl]
  have hV : V ≤ 512 := by omega
  have hr := runN_spec (j2 := j2) (j3 := j3) (j4 := j4) (es := es) (V := V) hk hj0
  obtain ⟨N, hNe⟩ : ∃ q, runN k j1 j2 j3 j4 es V = q := ⟨_, rfl⟩
  rw [hNe] at hr ⊢
  have hN : N ≤ 2000 := by have := hr.2.1; omega
  have HT := hide hr.1
  have HF := hide hr.2.2
  clear hr hNe hk hj0 hj1
  go_enter Tryz.func22, Tryz.ntmps22
  go_upto_region 1 with fail
  obtain ⟨u, hu⟩ : ∃ u, ((w.alloc (.cells #[.int .i64 (V : Int), .slice A L c] 24)).alloc (.cells #[.int .u8 k, .int .i64 j1, .int .i64 j2, .int .i64 j3, .int .i64 j4] 26)).alloc (.cells #[.int .i64 0, .slice none 0 0, .slice none 0 0, .slice none 0 0, .int .i64 0, .int .i64 0] 33) = u := ⟨_, rfl⟩
  rw [hu]
  have HU := hide (allocs3 hu)
  clear hu
  have hzu : u.heap.size = w.heap.size + 3 := HU.out.2.1
  have c0 : u.cell? ⟨w.heap.size, 0, none⟩ = some (.int .i64 (V : Int)) := cell_of_row _ _ 0 _ _ _ HU.out.2.2.1
  have c1 : u.cell? ⟨w.heap.size, 1, none⟩ = some (.slice A L c) := cell_of_row _ _ 1 _ _ _ HU.out.2.2.1
  have d0 : u.cell? ⟨w.heap.size + 1, 0, none⟩ = some (.int .u8 k) := cell_of_row _ _ 0 _ _ _ HU.out.2.2.2.1
  have d1 : u.cell? ⟨w.heap.size + 1, 1, none⟩ = some (.int .i64 j1) := cell_of_row _ _ 1 _ _ _ HU.out.2.2.2.1
  have d2 : u.cell? ⟨w.heap.size + 1, 2, none⟩ = some (.int .i64 j2) := cell_of_row _ _ 2 _ _ _ HU.out.2.2.2.1
  have d3 : u.cell? ⟨w.heap.size + 1, 3, none⟩ = some (.int .i64 j3) := cell_of_row _ _ 3 _ _ _ HU.out.2.2.2.1
  have d4 : u.cell? ⟨w.heap.size + 1, 4, none⟩ = some (.int .i64 j4) := cell_of_row _ _ 4 _ _ _ HU.out.2.2.2.1
  have hz0 : w.heap.size < u.heap.size := by omega
  have hz1 : w.heap.size + 1 < u.heap.size := by omega
  have hst := qrstart_any u (V : Int) A es L c HL.out hL9 ((HE.out.below HU.out.1 (Nat.le_refl _)).more HU.out.1.size) k j1 j2 j3 j4 HG.out
  rw [HEe.out] at hst
  have HST := hide hst
  clear hst
  go_wp2_with fail
  refine HST.out.mono ?_
  rw [show ((V : Int)).toNat = V from rfl]
  rintro e y (⟨h0, _⟩ | ⟨_, Av, Ac, Ai, cv, cc, ci, rfl, hin, hb, n1, n2, n3⟩)
  ·exact absurd rfl h0
  have HI2 := hide hin
  have HB := hide hb
  have HN2 := hide (And.intro n1 (And.intro n2 n3))
  have syu : u.heap.size ≤ y.heap.size := hb.size
  clear hin hb n1 n2 n3
  clear c0 c1 d0 d1 d2 d3 d4 hz0 hz1
  go_wp2
  obtain ⟨z0, hz0'⟩ : ∃ q, y.alloc (.cells #[.int .i64 (startV k j2 es V).st, .slice Av V cv, .slice Ac V cc, .slice Ai V ci, .int .i64 (startV k j2 es V).sm, .int .i64 (startV k j2 es V).mo] 33) = q := ⟨_, rfl⟩
  have hS0 : z0.heap[y.heap.size]? = some (.cells #[.int .i64 (startV k j2 es V).st, .slice Av V cv, .slice Ac V cc, .slice Ai V ci, .int .i64 (startV k j2 es V).sm, .int .i64 (startV k j2 es V).mo] 33) := by rw [← hz0']; exact heap_alloc_last _ _
  have hB0 : Below y.heap.size y z0 := by rw [← hz0']; exact (Below.refl _ _).alloc (Nat.le_refl _) _
  have hsz : y.heap.size < z0.heap.size := by rw [← hz0']; simp
  rw [hz0']
  obtain ⟨Sb, hSb⟩ : ∃ q, y.heap.size = q := ⟨_, rfl⟩
  have HI0 := hide (HI2.out.next hB0)
  have GU := hide ((hB0.block w.heap.size (by omega)).trans ((HB.out.block w.heap.size (by omega)).trans HU.out.2.2.1))
  have JU := hide ((hB0.block (w.heap.size + 1) (by omega)).trans ((HB.out.block (w.heap.size + 1) (by omega)).trans HU.out.2.2.2.1))
  have RU := hide ((hB0.block (w.heap.size + 2) (by omega)).trans ((HB.out.block (w.heap.size + 2) (by omega)).trans HU.out.2.2.2.2))
  have HBw := hide ((HU.out.1.trans (HB.out.mono (by omega))).trans (hB0.mono (by omega)))
  rw [hSb] at hS0 hsz ⊢
  have HS0 := hide hS0
  have hSu : u.heap.size ≤ Sb := by omega
  clear hS0 hB0 hz0' hSb
  go_loopw [20] (fun _ wr => ∃ (n : Nat) (Av Ac Ai : Option Addr) (cv cc ci : Nat), n ≤ N ∧ Hid (wr.heap[Sb]? = some (.cells #[.int .i64 (atV k j2 j3 es V n).st, .slice Av V cv, .slice Ac V cc, .slice Ai V ci, .int .i64 (atV k j2 j3 es V n).sm, .int .i64 (atV k j2 j3 es V n).mo] 33)) ∧ Hid (VIn wr (atV k j2 j3 es V n) Av Ac Ai) ∧ Hid (NewA u.heap.size Av ∧ NewA u.heap.size Ac ∧ NewA u.heap.size Ai) ∧ Hid (Below Sb z0 wr)) (fun _ wr => N - stepAt Sb wr)
  case atStart => exact ⟨0, Av, Ac, Ai, cv, cc, ci, by omega, HS0, HI0, HN2, hide (Below.refl _ _)⟩
  case round =>
   obtain ⟨n, Av, Ac, Ai, cv, cc, ci, hn, HS, HI, HN, HBr⟩ := hrel
   have srw : Sb ≤ wr.heap.size := by have := HBr.out.size; omega
   have s0 : wr.cell? ⟨Sb, 0, none⟩ = some (.int .i64 (atV k j2 j3 es V n).st) := cell_of_row _ _ 0 _ _ _ HS.out
   have s1 : wr.cell? ⟨Sb, 1, none⟩ = some (.slice Av V cv) := cell_of_row _ _ 1 _ _ _ HS.out
   have s2 : wr.cell? ⟨Sb, 2, none⟩ = some (.slice Ac V cc) := cell_of_row _ _ 2 _ _ _ HS.out
   have s3 : wr.cell? ⟨Sb, 3, none⟩ = some (.slice Ai V ci) := cell_of_row _ _ 3 _ _ _ HS.out
   have s4 : wr.cell? ⟨Sb, 4, none⟩ = some (.int .i64 (atV k j2 j3 es V n).sm) := cell_of_row _ _ 4 _ _ _ HS.out
   have s5 : wr.cell? ⟨Sb, 5, none⟩ = some (.int .i64 (atV k j2 j3 es V n).mo) := cell_of_row _ _ 5 _ _ _ HS.out
   have hSw : Sb < wr.heap.size := (Array.getElem?_eq_some_iff.1 HS.out).1
   have GW := hide ((HBr.out.block w.heap.size (by omega)).trans GU.out)
   have JW := hide ((HBr.out.block (w.heap.size + 1) (by omega)).trans JU.out)
   by_cases hlt : n < N
   ·have hc := rdone_any wr k j1 j2 j3 j4 (atV k j2 j3 es V n).st (atV k j2 j3 es V n).mo
    rw [show doneF k j1 j4 (atV k j2 j3 es V n).st (atV k j2 j3 es V n).mo = false from HF.out n hlt] at hc
    have HC := hide hc
    clear hc
    have c0 : wr.cell? ⟨w.heap.size, 0, none⟩ = some (.int .i64 (V : Int)) := cell_of_row _ _ 0 _ _ _ GW.out
    have c1 : wr.cell? ⟨w.heap.size, 1, none⟩ = some (.slice A L c) := cell_of_row _ _ 1 _ _ _ GW.out
    have d0 : wr.cell? ⟨w.heap.size + 1, 0, none⟩ = some (.int .u8 k) := cell_of_row _ _ 0 _ _ _ JW.out
    have d1 : wr.cell? ⟨w.heap.size + 1, 1, none⟩ = some (.int .i64 j1) := cell_of_row _ _ 1 _ _ _ JW.out
    have d2 : wr.cell? ⟨w.heap.size + 1, 2, none⟩ = some (.int .i64 j2) := cell_of_row _ _ 2 _ _ _ JW.out
    have d3 : wr.cell? ⟨w.heap.size + 1, 3, none⟩ = some (.int .i64 j3) := cell_of_row _ _ 3 _ _ _ JW.out
    have d4 : wr.cell? ⟨w.heap.size + 1, 4, none⟩ = some (.int .i64 j4) := cell_of_row _ _ 4 _ _ _ JW.out
    have hz0 : w.heap.size < wr.heap.size := by omega
    have hz1 : w.heap.size + 1 < wr.heap.size := by omega
    go_wp2_with fail
    refine HC.out.mono ?_
    rintro e z1 ⟨rfl, hz1'⟩
    have HZ1 := hide hz1'
    have sz1 : wr.heap.size ≤ z1.heap.size := hz1'.size
    clear c0 c1 d0 d1 d2 d3 d4 hz0 hz1
    clear hz1'
    clear s0 s1 s2 s3 s4 s5
    have HS1 := hide ((HZ1.out.block Sb hSw).trans HS.out)
    have hSz : Sb < z1.heap.size := by omega
    have GZ := hide ((HZ1.out.block w.heap.size (by omega)).trans GW.out)
    have JZ := hide ((HZ1.out.block (w.heap.size + 1) (by omega)).trans JW.out)
    have s0 : z1.cell? ⟨Sb, 0, none⟩ = some (.int .i64 (atV k j2 j3 es V n).st) := cell_of_row _ _ 0 _ _ _ HS1.out
    have s1 : z1.cell? ⟨Sb, 1, none⟩ = some (.slice Av V cv) := cell_of_row _ _ 1 _ _ _ HS1.out
    have s2 : z1.cell? ⟨Sb, 2, none⟩ = some (.slice Ac V cc) := cell_of_row _ _ 2 _ _ _ HS1.out
    have s3 : z1.cell? ⟨Sb, 3, none⟩ = some (.slice Ai V ci) := cell_of_row _ _ 3 _ _ _ HS1.out
    have s4 : z1.cell? ⟨Sb, 4, none⟩ = some (.int .i64 (atV k j2 j3 es V n).sm) := cell_of_row _ _ 4 _ _ _ HS1.out
    have s5 : z1.cell? ⟨Sb, 5, none⟩ = some (.int .i64 (atV k j2 j3 es V n).mo) := cell_of_row _ _ 5 _ _ _ HS1.out
    have c0 : z1.cell? ⟨w.heap.size, 0, none⟩ = some (.int .i64 (V : Int)) := cell_of_row _ _ 0 _ _ _ GZ.out
    have c1 : z1.cell? ⟨w.heap.size, 1, none⟩ = some (.slice A L c) := cell_of_row _ _ 1 _ _ _ GZ.out
    have d0 : z1.cell? ⟨w.heap.size + 1, 0, none⟩ = some (.int .u8 k) := cell_of_row _ _ 0 _ _ _ JZ.out
    have d1 : z1.cell? ⟨w.heap.size + 1, 1, none⟩ = some (.int .i64 j1) := cell_of_row _ _ 1 _ _ _ JZ.out
    have d2 : z1.cell? ⟨w.heap.size + 1, 2, none⟩ = some (.int .i64 j2) := cell_of_row _ _ 2 _ _ _ JZ.out
    have d3 : z1.cell? ⟨w.heap.size + 1, 3, none⟩ = some (.int .i64 j3) := cell_of_row _ _ 3 _ _ _ JZ.out
    have d4 : z1.cell? ⟨w.heap.size + 1, 4, none⟩ = some (.int .i64 j4) := cell_of_row _ _ 4 _ _ _ JZ.out
    have hz0 : w.heap.size < z1.heap.size := by omega
    have hz1 : w.heap.size + 1 < z1.heap.size := by omega
    have HEz := hide ((HE.out.below (HBw.out.trans (HBr.out.mono (by omega))) (Nat.le_refl _)).more ((HBw.out.trans (HBr.out.mono (by omega))).size))
    go_wp2_with fail
    refine (qrnext_any z1 V A es L c HL.out hL5 ((Eds.below HEz.out HZ1.out (Nat.le_refl _)).more HZ1.out.size) k j1 j2 j3 j4 hV hEB (atV k j2 j3 es V n) (atV_ok (by omega) hEB n) Av Ac Ai cv cc ci (HI.out.next HZ1.out) (by rw [atV_st]; omega) (by rw [atV_st]; omega)).mono ?_
    rw [show nextV k j3 es V (atV k j2 j3 es V n) = atV k j2 j3 es V (n + 1) from rfl]
    rintro e z2 ⟨Av2, Ac2, Ai2, cv2, cc2, ci2, rfl, hi2, hz2, n1, n2, n3⟩
    have HI2 := hide hi2
    have HZ2 := hide hz2
    have HN2 := hide (And.intro n1 (And.intro n2 n3))
    have sz2 : z1.heap.size ≤ z2.heap.size := hz2.size
    clear hi2 hz2 n1 n2 n3
    clear s0 s1 s2 s3 s4 s5
    clear c0 c1 d0 d1 d2 d3 d4 hz0 hz1
    have HS2 := hide ((HZ2.out.block Sb hSz).trans HS1.out)
    have s0 : z2.cell? ⟨Sb, 0, none⟩ = some (.int .i64 (atV k j2 j3 es V n).st) := cell_of_row _ _ 0 _ _ _ HS2.out
    have s1 : z2.cell? ⟨Sb, 1, none⟩ = some (.slice Av V cv) := cell_of_row _ _ 1 _ _ _ HS2.out
    have s2 : z2.cell? ⟨Sb, 2, none⟩ = some (.slice Ac V cc) := cell_of_row _ _ 2 _ _ _ HS2.out
    have s3 : z2.cell? ⟨Sb, 3, none⟩ = some (.slice Ai V ci) := cell_of_row _ _ 3 _ _ _ HS2.out
    have s4 : z2.cell? ⟨Sb, 4, none⟩ = some (.int .i64 (atV k j2 j3 es V n).sm) := cell_of_row _ _ 4 _ _ _ HS2.out
    have s5 : z2.cell? ⟨Sb, 5, none⟩ = some (.int .i64 (atV k j2 j3 es V n).mo) := cell_of_row _ _ 5 _ _ _ HS2.out
    have f0 : z2.frozen? ⟨Sb, 0, none⟩ = false := frozen_of_row _ _ 0 _ _ HS2.out
    have f1 : z2.frozen? ⟨Sb, 1, none⟩ = false := frozen_of_row _ _ 1 _ _ HS2.out
    have f2 : z2.frozen? ⟨Sb, 2, none⟩ = false := frozen_of_row _ _ 2 _ _ HS2.out
    have f3 : z2.frozen? ⟨Sb, 3, none⟩ = false := frozen_of_row _ _ 3 _ _ HS2.out
    have f4 : z2.frozen? ⟨Sb, 4, none⟩ = false := frozen_of_row _ _ 4 _ _ HS2.out
    have f5 : z2.frozen? ⟨Sb, 5, none⟩ = false := frozen_of_row _ _ 5 _ _ HS2.out
    have hSy : Sb < z2.heap.size := by omega
    go_wp2
    obtain ⟨y4, hy4⟩ : ∃ q, (((((z2.setCell ⟨Sb, 0, none⟩ (.int .i64 (atV k j2 j3 es V (n + 1)).st)).setCell ⟨Sb, 1, none⟩ (.slice Av2 V cv2)).setCell ⟨Sb, 2, none⟩ (.slice Ac2 V cc2)).setCell ⟨Sb, 3, none⟩ (.slice Ai2 V ci2)).setCell ⟨Sb, 4, none⟩ (.int .i64 (atV k j2 j3 es V (n + 1)).sm)).setCell ⟨Sb, 5, none⟩ (.int .i64 (atV k j2 j3 es V (n + 1)).mo) = q := ⟨_, rfl⟩
    have hF := far6 z2 Sb Sb (.int .i64 (atV k j2 j3 es V (n + 1)).st) (.slice Av2 V cv2) (.slice Ac2 V cc2) (.slice Ai2 V ci2) (.int .i64 (atV k j2 j3 es V (n + 1)).sm) (.int .i64 (atV k j2 j3 es V (n + 1)).mo) HS2.out
    rw [hy4] at hF ⊢
    obtain ⟨F4, hY⟩ := hF
    have HF4 := hide F4
    have HY4 := hide hY
    clear hy4 F4 hY
    clear s0 s1 s2 s3 s4 s5 f0 f1 f2 f3 f4 f5
    have HI4 : Hid (VIn y4 (atV k j2 j3 es V (n + 1)) Av2 Ac2 Ai2) := hide ⟨HF4.out.rd HI2.out.vals HN2.out.1 (by omega) (by omega), HF4.out.rd HI2.out.chg HN2.out.2.1 (by omega) (by omega), HF4.out.rd HI2.out.inb HN2.out.2.2 (by omega) (by omega)⟩
    have HB4 := hide (((HBr.out.trans (HZ1.out.mono srw)).trans (HZ2.out.mono (show Sb ≤ z1.heap.size by omega))).trans (HF4.out.below (Nat.le_refl _) (Nat.le_refl _)))
    have HN4 : Hid (NewA u.heap.size Av2 ∧ NewA u.heap.size Ac2 ∧ NewA u.heap.size Ai2) := hide ⟨HN2.out.1.mono (by omega), HN2.out.2.1.mono (by omega), HN2.out.2.2.mono (by omega)⟩
    have hst := stepAt_of (cell_of_row _ _ 0 _ _ _ HY4.out)
    have hst0 := stepAt_of (cell_of_row _ _ 0 _ _ _ HS.out)
    rw [atV_st] at hst hst0
    go_roundw
    case rel => exact ⟨n + 1, Av2, Ac2, Ai2, cv2, cc2, ci2, by omega, HY4, HI4, HN4, HB4⟩
    case measure => rw [hst, hst0]; simp; omega
   ·obtain rfl : n = N := by omega
    have hc := rdone_any wr k j1 j2 j3 j4 (atV k j2 j3 es V n).st (atV k j2 j3 es V n).mo
    rw [show doneF k j1 j4 (atV k j2 j3 es V n).st (atV k j2 j3 es V n).mo = true from HT.out] at hc
    have HC := hide hc
    clear hc
    have c0 : wr.cell? ⟨w.heap.size, 0, none⟩ = some (.int .i64 (V : Int)) := cell_of_row _ _ 0 _ _ _ GW.out
    have c1 : wr.cell? ⟨w.heap.size, 1, none⟩ = some (.slice A L c) := cell_of_row _ _ 1 _ _ _ GW.out
    have d0 : wr.cell? ⟨w.heap.size + 1, 0, none⟩ = some (.int .u8 k) := cell_of_row _ _ 0 _ _ _ JW.out
    have d1 : wr.cell? ⟨w.heap.size + 1, 1, none⟩ = some (.int .i64 j1) := cell_of_row _ _ 1 _ _ _ JW.out
    have d2 : wr.cell? ⟨w.heap.size + 1, 2, none⟩ = some (.int .i64 j2) := cell_of_row _ _ 2 _ _ _ JW.out
    have d3 : wr.cell? ⟨w.heap.size + 1, 3, none⟩ = some (.int .i64 j3) := cell_of_row _ _ 3 _ _ _ JW.out
    have d4 : wr.cell? ⟨w.heap.size + 1, 4, none⟩ = some (.int .i64 j4) := cell_of_row _ _ 4 _ _ _ JW.out
    have hz0 : w.heap.size < wr.heap.size := by omega
    have hz1 : w.heap.size + 1 < wr.heap.size := by omega
    go_wp2_with fail
    refine HC.out.mono ?_
    rintro e z1 ⟨rfl, hz1'⟩
    have HZ1 := hide hz1'
    have sz1 : wr.heap.size ≤ z1.heap.size := hz1'.size
    clear c0 c1 d0 d1 d2 d3 d4 hz0 hz1
    clear hz1'
    clear s0 s1 s2 s3 s4 s5
    have HS1 := hide ((HZ1.out.block Sb hSw).trans HS.out)
    have hSz : Sb < z1.heap.size := by omega
    have GZ := hide ((HZ1.out.block w.heap.size (by omega)).trans GW.out)
    have JZ := hide ((HZ1.out.block (w.heap.size + 1) (by omega)).trans JW.out)
    have s0 : z1.cell? ⟨Sb, 0, none⟩ = some (.int .i64 (atV k j2 j3 es V n).st) := cell_of_row _ _ 0 _ _ _ HS1.out
    have s1 : z1.cell? ⟨Sb, 1, none⟩ = some (.slice Av V cv) := cell_of_row _ _ 1 _ _ _ HS1.out
    have s2 : z1.cell? ⟨Sb, 2, none⟩ = some (.slice Ac V cc) := cell_of_row _ _ 2 _ _ _ HS1.out
    have s3 : z1.cell? ⟨Sb, 3, none⟩ = some (.slice Ai V ci) := cell_of_row _ _ 3 _ _ _ HS1.out
    have s4 : z1.cell? ⟨Sb, 4, none⟩ = some (.int .i64 (atV k j2 j3 es V n).sm) := cell_of_row _ _ 4 _ _ _ HS1.out
    have s5 : z1.cell? ⟨Sb, 5, none⟩ = some (.int .i64 (atV k j2 j3 es V n).mo) := cell_of_row _ _ 5 _ _ _ HS1.out
    have HRow := hide ((HZ1.out.block (w.heap.size + 2) (by omega)).trans ((HBr.out.block (w.heap.size + 2) (by omega)).trans RU.out))
    have HIz := HI.out.next HZ1.out
    have HIZ := hide HIz
    clear HIz
    have hRz : w.heap.size + 1 + 1 < z1.heap.size := by omega
    have q0 : z1.cell? ⟨w.heap.size + 1 + 1, 0, none⟩ = some (.int .i64 0) := cell_of_row _ _ 0 _ _ _ HRow.out
    have q1 : z1.cell? ⟨w.heap.size + 1 + 1, 1, none⟩ = some (.slice none 0 0) := cell_of_row _ _ 1 _ _ _ HRow.out
    have q2 : z1.cell? ⟨w.heap.size + 1 + 1, 2, none⟩ = some (.slice none 0 0) := cell_of_row _ _ 2 _ _ _ HRow.out
    have q3 : z1.cell? ⟨w.heap.size + 1 + 1, 3, none⟩ = some (.slice none 0 0) := cell_of_row _ _ 3 _ _ _ HRow.out
    have q4 : z1.cell? ⟨w.heap.size + 1 + 1, 4, none⟩ = some (.int .i64 0) := cell_of_row _ _ 4 _ _ _ HRow.out
    have q5 : z1.cell? ⟨w.heap.size + 1 + 1, 5, none⟩ = some (.int .i64 0) := cell_of_row _ _ 5 _ _ _ HRow.out
    have f0 : z1.frozen? ⟨w.heap.size + 1 + 1, 0, none⟩ = false := frozen_of_row _ _ 0 _ _ HRow.out
    have f1 : z1.frozen? ⟨w.heap.size + 1 + 1, 1, none⟩ = false := frozen_of_row _ _ 1 _ _ HRow.out
    have f2 : z1.frozen? ⟨w.heap.size + 1 + 1, 2, none⟩ = false := frozen_of_row _ _ 2 _ _ HRow.out
    have f3 : z1.frozen? ⟨w.heap.size + 1 + 1, 3, none⟩ = false := frozen_of_row _ _ 3 _ _ HRow.out
    have f4 : z1.frozen? ⟨w.heap.size + 1 + 1, 4, none⟩ = false := frozen_of_row _ _ 4 _ _ HRow.out
    have f5 : z1.frozen? ⟨w.heap.size + 1 + 1, 5, none⟩ = false := frozen_of_row _ _ 5 _ _ HRow.out
    go_wp2
    obtain ⟨wf, hwf⟩ : ∃ q, (((((z1.setCell ⟨w.heap.size + 1 + 1, 0, none⟩ (.int .i64 (atV k j2 j3 es V n).st)).setCell ⟨w.heap.size + 1 + 1, 1, none⟩ (.slice Av V cv)).setCell ⟨w.heap.size + 1 + 1, 2, none⟩ (.slice Ac V cc)).setCell ⟨w.heap.size + 1 + 1, 3, none⟩ (.slice Ai V ci)).setCell ⟨w.heap.size + 1 + 1, 4, none⟩ (.int .i64 (atV k j2 j3 es V n).sm)).setCell ⟨w.heap.size + 1 + 1, 5, none⟩ (.int .i64 (atV k j2 j3 es V n).mo) = q := ⟨_, rfl⟩
    have hF := far6 z1 (w.heap.size + 1 + 1) (w.heap.size + 1 + 1) (.int .i64 (atV k j2 j3 es V n).st) (.slice Av V cv) (.slice Ac V cc) (.slice Ai V ci) (.int .i64 (atV k j2 j3 es V n).sm) (.int .i64 (atV k j2 j3 es V n).mo) HRow.out
    rw [hwf] at hF ⊢
    obtain ⟨FF, HY⟩ := hF
    obtain ⟨y0, y1, y2, y3, y4, y5⟩ := cells6 HY
    clear hwf HY
    exact bodyPost_ret (v := .tuple #[.agg #[.int .i64 (atV k j2 j3 es V n).st, .slice Av V cv, .slice Ac V cc, .slice Ai V ci, .int .i64 (atV k j2 j3 es V n).sm, .int .i64 (atV k j2 j3 es V n).mo], .int .i64 0]) (by simp [results, Tryz.results22, go_sem, y0, y1, y2, y3, y4, y5]) rfl (.inr ⟨rfl, Av, Ac, Ai, cv, cc, ci, rfl, ⟨FF.rd HIZ.out.vals HN.out.1 (by omega) (by omega), FF.rd HIZ.out.chg HN.out.2.1 (by omega) (by omega), FF.rd HIZ.out.inb HN.out.2.2 (by omega) (by omega)⟩, (HBw.out.trans ((HBr.out.mono (by omega)).trans (HZ1.out.mono (by omega)))).trans (FF.below (by omega) (by omega)), HN.out.1.mono (by omega), HN.out.2.1.mono (by omega), HN.out.2.2.mono (by omega)⟩)
end Go.Proofs.YtpgbjabifhjogaaGreat

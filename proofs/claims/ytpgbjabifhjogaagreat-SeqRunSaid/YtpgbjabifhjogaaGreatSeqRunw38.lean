/- seq.till: the first state of which something holds. -/
import Derived.Test.YtpgbjabifhjogaaGreatSeqRunw37
namespace Go.Proofs.YtpgbjabifhjogaaGreat
open Go.RowKit Go.Shelf
attribute [local go_sem] Oper.semAt_some
set_option linter.unusedVariables false
set_option linter.unusedSimpArgs false
/-- what till leaves: an error, or the state -/
def TillPost (w : World) (E : Int) (V : Nat) (s : SV) (e : Ending) (w' : World) : Prop :=
 (E ≠ 0 ∧ e = .returned (.tuple #[.agg #[.int .i64 0, .slice none 0 0, .slice none 0 0, .slice none 0 0, .int .i64 0, .int .i64 0], .int .i64 E]) ∧ Below w.heap.size w w') ∨
 (E = 0 ∧ ∃ Av Ac Ai cv cc ci, e = .returned (.tuple #[.agg #[.int .i64 s.st, .slice Av V cv, .slice Ac V cc, .slice Ai V ci, .int .i64 s.sm, .int .i64 s.mo], .int .i64 0]) ∧ VIn w' s Av Ac Ai ∧ Below w.heap.size w w' ∧ NewA w.heap.size Av ∧ NewA w.heap.size Ac ∧ NewA w.heap.size Ai)
def stepAt (b : Nat) (w : World) : Nat := match w.cell? ⟨b, 0, none⟩ with | some (.int _ x) => x.toNat | _ => 0
theorem stepAt_of {b : Nat} {w : World} {x : Int} (h : w.cell? ⟨b, 0, none⟩ = some (.int .i64 x)) : stepAt b w = x.toNat := by unfold stepAt; rw [h]
set_option maxRecDepth 100000 in
theorem start1_any (w : World) (st sm mo : Int) (A1 A2 A3 : Option Addr) (n1 n2 n3 c1 c2 c3 : Nat) : Calls Tryz.prog 38 #[.agg #[.int .i64 st, .slice A1 n1 c1, .slice A2 n2 c2, .slice A3 n3 c3, .int .i64 sm, .int .i64 mo]] w fun e w' => e = .returned (.bool true) ∧ Below w.heap.size w w' := by
 have HB := hide (show Below w.heap.size w (w.alloc (.cells #[.int .i64 st, .slice A1 n1 c1, .slice A2 n2 c2, .slice A3 n3 c3, .int .i64 sm, .int .i64 mo] 33)) from (Below.refl _ _).alloc (Nat.le_refl _) _)
 go_enter Tryz.func38, Tryz.ntmps38
 go_wp2
 go_ret
 exact ⟨rfl, HB.out⟩
set_option maxRecDepth 100000 in
theorem at1_any (w : World) (st sm mo : Int) (A1 A2 A3 : Option Addr) (n1 n2 n3 c1 c2 c3 : Nat) (P : Nat) (q : Int) (hP : P < w.heap.size) (hq : w.cell? ⟨P, 0, none⟩ = some (.int .i64 q)) : Calls Tryz.prog 35 #[.agg #[.int .i64 st, .slice A1 n1 c1, .slice A2 n2 c2, .slice A3 n3 c3, .int .i64 sm, .int .i64 mo], .pointer (some ⟨P, 0, none⟩)] w fun e w' => e = .returned (.bool (st == q)) ∧ Below w.heap.size w w' := by
 have HB := hide (show Below w.heap.size w (w.alloc (.cells #[.int .i64 st, .slice A1 n1 c1, .slice A2 n2 c2, .slice A3 n3 c3, .int .i64 sm, .int .i64 mo] 33)) from (Below.refl _ _).alloc (Nat.le_refl _) _)
 go_enter Tryz.func35, Tryz.ntmps35
 go_wp2
 go_ret
 exact ⟨rfl, HB.out⟩
set_option maxRecDepth 100000 in
theorem run1_any (w : World) (st sm mo : Int) (A1 A2 A3 : Option Addr) (n1 n2 n3 c1 c2 c3 : Nat) (P : Nat) (k j1 j2 j3 j4 : Int) (hP : w.heap[P]? = some (.cells #[.int .u8 k, .int .i64 j1, .int .i64 j2, .int .i64 j3, .int .i64 j4] 26)) : Calls Tryz.prog 45 #[.agg #[.int .i64 st, .slice A1 n1 c1, .slice A2 n2 c2, .slice A3 n3 c3, .int .i64 sm, .int .i64 mo], .pointer (some ⟨P, 0, none⟩)] w fun e w' => e = .returned (.bool (doneF k j1 j4 st mo)) ∧ Below w.heap.size w w' := by
 obtain ⟨u, hu⟩ : ∃ u, w.alloc (.cells #[.int .i64 st, .slice A1 n1 c1, .slice A2 n2 c2, .slice A3 n3 c3, .int .i64 sm, .int .i64 mo] 33) = u := ⟨_, rfl⟩
 have HB := hide (show Below w.heap.size w u by rw [← hu]; exact (Below.refl _ _).alloc (Nat.le_refl _) _)
 have hPl : P < w.heap.size := (Array.getElem?_eq_some_iff.1 hP).1
 have hz : u.heap.size = w.heap.size + 1 := by rw [← hu]; simp
 have hzP : P < u.heap.size := by omega
 have hzS : w.heap.size < u.heap.size := by omega
 have GP := (HB.out.block P hPl).trans hP
 have d0 : u.cell? ⟨P, 0, none⟩ = some (.int .u8 k) := cell_of_row _ _ 0 _ _ _ GP
 have d1 : u.cell? ⟨P, 1, none⟩ = some (.int .i64 j1) := cell_of_row _ _ 1 _ _ _ GP
 have d2 : u.cell? ⟨P, 2, none⟩ = some (.int .i64 j2) := cell_of_row _ _ 2 _ _ _ GP
 have d3 : u.cell? ⟨P, 3, none⟩ = some (.int .i64 j3) := cell_of_row _ _ 3 _ _ _ GP
 have d4 : u.cell? ⟨P, 4, none⟩ = some (.int .i64 j4) := cell_of_row _ _ 4 _ _ _ GP
 have GS : u.heap[w.heap.size]? = some (.cells #[.int .i64 st, .slice A1 n1 c1, .slice A2 n2 c2, .slice A3 n3 c3, .int .i64 sm, .int .i64 mo] 33) := by rw [← hu]; exact heap_alloc_last _ _
 have s0 : u.cell? ⟨w.heap.size, 0, none⟩ = some (.int .i64 st) := cell_of_row _ _ 0 _ _ _ GS
 have s5 : u.cell? ⟨w.heap.size, 5, none⟩ = some (.int .i64 mo) := cell_of_row _ _ 5 _ _ _ GS
 have HU := hide hu
 clear hu GP GS hP hz
 go_enter Tryz.func45, Tryz.ntmps45
 go_upto_region 1 with fail
 rw [HU.out]
 go_wp2_with fail
 refine (done_any u k j1 j2 j3 j4 st mo).mono ?_
 rintro e z ⟨rfl, hz⟩
 have HF := hide (HB.out.trans (hz.mono HB.out.size))
 clear hz
 go_wp2
 go_ret
 exact ⟨rfl, HF.out⟩
set_option maxRecDepth 100000 in
set_option maxHeartbeats 8000000 in
theorem tillAt_any (w : World) (V : Nat) (hV : V ≤ 512) (A : Option Addr) (es : List Ed) (L c : Nat) (hL : es.length = L) (hL5 : L ≤ 80) (hE : Eds w w.heap.size A es) (hEB : edsB es) (k j1 j2 j3 j4 : Int) (P : Nat) (kk : Int) (hP : w.heap[P]? = some (.cells #[.int .i64 kk] 3)) (N : Nat) (hN : N ≤ 2000) (hT : ((atV k j2 j3 es V N).st == kk) = true) (hF : ∀ n, n < N → ((atV k j2 j3 es V n).st == kk) = false) :
  Calls Tryz.prog 34 #[.agg #[.int .i64 (V : Int), .slice A L c], .agg #[.int .u8 k, .int .i64 j1, .int .i64 j2, .int .i64 j3, .int .i64 j4], .func (.func 35) #[] #[.pointer (some ⟨P, 0, none⟩)]] w (TillPost w (acheckF k j1 j2 j3 j4 (V : Int) es) V (atV k j2 j3 es V N)) := by
 have HL := hide hL
 have HE := hide hE
 have hPl := (Array.getElem?_eq_some_iff.1 hP).1
 have HP := hide hP
 have HT := hide hT
 have HF := hide hF
 clear hP hT hF
 obtain ⟨E, hEe⟩ : ∃ E, acheckF k j1 j2 j3 j4 (V : Int) es = E := ⟨_, rfl⟩
 rw [hEe]
 have HEE := hide hEe
 clear hL hE hEe
 go_enter Tryz.func34, Tryz.ntmps34
 go_upto_region 1 with fail
 obtain ⟨u, hu⟩ : ∃ u, ((w.alloc (.cells #[.int .i64 (V : Int), .slice A L c] 24)).alloc (.cells #[.int .u8 k, .int .i64 j1, .int .i64 j2, .int .i64 j3, .int .i64 j4] 26)).alloc (.cells #[.int .i64 0, .slice none 0 0, .slice none 0 0, .slice none 0 0, .int .i64 0, .int .i64 0] 33) = u := ⟨_, rfl⟩
 rw [hu]
 have HU := hide (allocs3 hu)
 clear hu
 have hzu : u.heap.size = w.heap.size + 3 := HU.out.2.1
 have hz0 : w.heap.size < u.heap.size := by omega
 have hz1 : w.heap.size + 1 < u.heap.size := by omega
 have c0 : u.cell? ⟨w.heap.size, 0, none⟩ = some (.int .i64 (V : Int)) := cell_of_row _ _ 0 _ _ _ HU.out.2.2.1
 have c1 : u.cell? ⟨w.heap.size, 1, none⟩ = some (.slice A L c) := cell_of_row _ _ 1 _ _ _ HU.out.2.2.1
 have d0 : u.cell? ⟨w.heap.size + 1, 0, none⟩ = some (.int .u8 k) := cell_of_row _ _ 0 _ _ _ HU.out.2.2.2.1
 have d1 : u.cell? ⟨w.heap.size + 1, 1, none⟩ = some (.int .i64 j1) := cell_of_row _ _ 1 _ _ _ HU.out.2.2.2.1
 have d2 : u.cell? ⟨w.heap.size + 1, 2, none⟩ = some (.int .i64 j2) := cell_of_row _ _ 2 _ _ _ HU.out.2.2.2.1
 have d3 : u.cell? ⟨w.heap.size + 1, 3, none⟩ = some (.int .i64 j3) := cell_of_row _ _ 3 _ _ _ HU.out.2.2.2.1
 have d4 : u.cell? ⟨w.heap.size + 1, 4, none⟩ = some (.int .i64 j4) := cell_of_row _ _ 4 _ _ _ HU.out.2.2.2.1
 go_wp2_with fail
 have hb0 := build_any u V hV A es L c HL.out (by omega) ((HE.out.below HU.out.1 (Nat.le_refl _)).more HU.out.1.size) k j1 j2 j3 j4
 rw [HEE.out] at hb0
 refine hb0.mono ?_
 rintro e y (⟨hE0, rfl, hb⟩ | ⟨rfl, m, B, xs, rfl, hA, hm1, hm2, hMI⟩)
 all_goals clear c0 c1 d0 d1 d2 d3 d4 hb0 hz0 hz1
 ·have hE1 : (E == 0) = false := by simpa using hE0
  have hE2 : (E != 0) = true := by simpa using hE0
  have HE0 := hide hE0
  have HBy := hide hb
  have syu : u.heap.size ≤ y.heap.size := hb.size
  clear hE0 hb
  have HRy := hide ((HBy.out.block (w.heap.size + 2) (by omega)).trans HU.out.2.2.2.2)
  have hRz : w.heap.size + 1 + 1 < y.heap.size := by omega
  have q0 : y.cell? ⟨w.heap.size + 1 + 1, 0, none⟩ = some (.int .i64 0) := cell_of_row _ _ 0 _ _ _ HRy.out
  have q1 : y.cell? ⟨w.heap.size + 1 + 1, 1, none⟩ = some (.slice none 0 0) := cell_of_row _ _ 1 _ _ _ HRy.out
  have q2 : y.cell? ⟨w.heap.size + 1 + 1, 2, none⟩ = some (.slice none 0 0) := cell_of_row _ _ 2 _ _ _ HRy.out
  have q3 : y.cell? ⟨w.heap.size + 1 + 1, 3, none⟩ = some (.slice none 0 0) := cell_of_row _ _ 3 _ _ _ HRy.out
  have q4 : y.cell? ⟨w.heap.size + 1 + 1, 4, none⟩ = some (.int .i64 0) := cell_of_row _ _ 4 _ _ _ HRy.out
  have q5 : y.cell? ⟨w.heap.size + 1 + 1, 5, none⟩ = some (.int .i64 0) := cell_of_row _ _ 5 _ _ _ HRy.out
  have f0 : y.frozen? ⟨w.heap.size + 1 + 1, 0, none⟩ = false := frozen_of_row _ _ 0 _ _ HRy.out
  have f1 : y.frozen? ⟨w.heap.size + 1 + 1, 1, none⟩ = false := frozen_of_row _ _ 1 _ _ HRy.out
  have f2 : y.frozen? ⟨w.heap.size + 1 + 1, 2, none⟩ = false := frozen_of_row _ _ 2 _ _ HRy.out
  have f3 : y.frozen? ⟨w.heap.size + 1 + 1, 3, none⟩ = false := frozen_of_row _ _ 3 _ _ HRy.out
  have f4 : y.frozen? ⟨w.heap.size + 1 + 1, 4, none⟩ = false := frozen_of_row _ _ 4 _ _ HRy.out
  have f5 : y.frozen? ⟨w.heap.size + 1 + 1, 5, none⟩ = false := frozen_of_row _ _ 5 _ _ HRy.out
  go_wp2
  obtain ⟨wf, hwf⟩ : ∃ q, (((((y.setCell ⟨w.heap.size + 1 + 1, 0, none⟩ (.int .i64 0)).setCell ⟨w.heap.size + 1 + 1, 1, none⟩ (.slice none 0 0)).setCell ⟨w.heap.size + 1 + 1, 2, none⟩ (.slice none 0 0)).setCell ⟨w.heap.size + 1 + 1, 3, none⟩ (.slice none 0 0)).setCell ⟨w.heap.size + 1 + 1, 4, none⟩ (.int .i64 0)).setCell ⟨w.heap.size + 1 + 1, 5, none⟩ (.int .i64 0) = q := ⟨_, rfl⟩
  have hF := far6 y (w.heap.size + 1 + 1) (w.heap.size + 1 + 1) (.int .i64 0) (.slice none 0 0) (.slice none 0 0) (.slice none 0 0) (.int .i64 0) (.int .i64 0) HRy.out
  rw [hwf] at hF ⊢
  obtain ⟨FF, HY⟩ := hF
  obtain ⟨y0, y1, y2, y3, y4, y5⟩ := cells6 HY
  clear hwf HY
  exact bodyPost_ret (v := .tuple #[.agg #[.int .i64 0, .slice none 0 0, .slice none 0 0, .slice none 0 0, .int .i64 0, .int .i64 0], .int .i64 E]) (by simp [results, Tryz.results34, go_sem, y0, y1, y2, y3, y4, y5]) rfl (.inl ⟨HE0.out, rfl, (HU.out.1.trans (HBy.out.mono (by omega))).trans (FF.below (by omega) (by omega))⟩)
 ·obtain ⟨Aof, Aow, cof, cow, hMH⟩ := hMI.has hA HE.out.wt
  have HMY := hide hMH
  have HBu := hide hMI.below
  have syu : u.heap.size ≤ y.heap.size := hMI.below.size
  clear hMH hMI hA
  go_wp2_with fail
  refine (mstart_any y m V A L c k j1 j2 j3 j4 es xs Aof Aow cof cow HMY.out hV HL.out hL5 hEB).mono ?_
  rintro e z ⟨Av, Ac, Ai, cv, cc, ci, rfl, hi2, hz2, n1, n2, n3⟩
  have HI2 := hide hi2
  have HZ2 := hide hz2
  have HN2 := hide (And.intro n1 (And.intro n2 n3))
  have sz2 : y.heap.size ≤ z.heap.size := hz2.size
  clear hi2 hz2 n1 n2 n3
  go_wp2
  obtain ⟨z0, hz0⟩ : ∃ q, z.alloc (.cells #[.int .i64 (startV k j2 es V).st, .slice Av V cv, .slice Ac V cc, .slice Ai V ci, .int .i64 (startV k j2 es V).sm, .int .i64 (startV k j2 es V).mo] 33) = q := ⟨_, rfl⟩
  have hS0 : z0.heap[z.heap.size]? = some (.cells #[.int .i64 (startV k j2 es V).st, .slice Av V cv, .slice Ac V cc, .slice Ai V ci, .int .i64 (startV k j2 es V).sm, .int .i64 (startV k j2 es V).mo] 33) := by rw [← hz0]; exact heap_alloc_last _ _
  have hB0 : Below z.heap.size z z0 := by rw [← hz0]; exact (Below.refl _ _).alloc (Nat.le_refl _) _
  rw [hz0]
  obtain ⟨Sb, hSb⟩ : ∃ q, z.heap.size = q := ⟨_, rfl⟩
  rw [hSb] at hS0 sz2 ⊢
  have HS0 := hide hS0
  have HB0 : Hid (Below Sb z z0) := hide (by rw [← hSb]; exact hB0)
  have HI0 := hide (HI2.out.next hB0)
  have HMH := hide (HMY.out.next HZ2.out)
  have HSb := hide hSb
  have HRy := hide ((HZ2.out.block (w.heap.size + 2) (by omega)).trans ((HBu.out.block (w.heap.size + 2) (by omega)).trans HU.out.2.2.2.2))
  have HBy := hide (show Below w.heap.size w z from (HU.out.1.trans (HBu.out.mono (by omega))).trans (HZ2.out.mono (by omega)))
  have HBw := HBy
  clear hS0 hB0 hz0 hSb
  go_loopw [24] (fun _ wr => ∃ (n : Nat) (Av Ac Ai : Option Addr) (cv cc ci : Nat), n ≤ N ∧ Hid (wr.heap[Sb]? = some (.cells #[.int .i64 (atV k j2 j3 es V n).st, .slice Av V cv, .slice Ac V cc, .slice Ai V ci, .int .i64 (atV k j2 j3 es V n).sm, .int .i64 (atV k j2 j3 es V n).mo] 33)) ∧ Hid (VIn wr (atV k j2 j3 es V n) Av Ac Ai) ∧ Hid (NewA u.heap.size Av ∧ NewA u.heap.size Ac ∧ NewA u.heap.size Ai) ∧ Hid (Below Sb z wr)) (fun _ wr => N - stepAt Sb wr)
  case atStart => exact ⟨0, Av, Ac, Ai, cv, cc, ci, by omega, HS0, HI0, hide ⟨HN2.out.1.mono (by omega), HN2.out.2.1.mono (by omega), HN2.out.2.2.mono (by omega)⟩, HB0⟩
  case round =>
   have hSz0 : z.heap.size = Sb := HSb.out
   obtain ⟨n, Av, Ac, Ai, cv, cc, ci, hn, HS, HI, HN, HBr⟩ := hrel
   have srw : Sb ≤ wr.heap.size := by have := HBr.out.size; omega
   have s0 : wr.cell? ⟨Sb, 0, none⟩ = some (.int .i64 (atV k j2 j3 es V n).st) := cell_of_row _ _ 0 _ _ _ HS.out
   have s1 : wr.cell? ⟨Sb, 1, none⟩ = some (.slice Av V cv) := cell_of_row _ _ 1 _ _ _ HS.out
   have s2 : wr.cell? ⟨Sb, 2, none⟩ = some (.slice Ac V cc) := cell_of_row _ _ 2 _ _ _ HS.out
   have s3 : wr.cell? ⟨Sb, 3, none⟩ = some (.slice Ai V ci) := cell_of_row _ _ 3 _ _ _ HS.out
   have s4 : wr.cell? ⟨Sb, 4, none⟩ = some (.int .i64 (atV k j2 j3 es V n).sm) := cell_of_row _ _ 4 _ _ _ HS.out
   have s5 : wr.cell? ⟨Sb, 5, none⟩ = some (.int .i64 (atV k j2 j3 es V n).mo) := cell_of_row _ _ 5 _ _ _ HS.out
   have hSw : Sb < wr.heap.size := (Array.getElem?_eq_some_iff.1 HS.out).1
   have HPw := (HBr.out.block P (by omega)).trans ((HBy.out.block P (by omega)).trans HP.out)
   have HC := hide (at1_any wr (atV k j2 j3 es V n).st (atV k j2 j3 es V n).sm (atV k j2 j3 es V n).mo Av Ac Ai V V V cv cc ci P kk (Array.getElem?_eq_some_iff.1 HPw).1 (cell_of_row _ _ 0 _ _ _ HPw))
   clear HPw
   have hmr : MHas m V A L c k j1 j2 j3 j4 es xs Aof Aow cof cow wr := HMH.out.next (HBr.out.mono (by omega))
   have HMr := hide hmr
   clear hmr
   by_cases hlt : n < N
   ·rw [show ((atV k j2 j3 es V n).st == kk) = false from HF.out n hlt] at HC
    go_wp2_with fail
    refine HC.out.mono ?_
    rintro e z1 ⟨rfl, hz1⟩
    have HZ1 := hide hz1
    have sz1 : wr.heap.size ≤ z1.heap.size := hz1.size
    clear s0 s1 s2 s3 s4 s5
    clear hz1
    have HS1 := hide ((HZ1.out.block Sb hSw).trans HS.out)
    have hSz : Sb < z1.heap.size := by omega
    have s0 : z1.cell? ⟨Sb, 0, none⟩ = some (.int .i64 (atV k j2 j3 es V n).st) := cell_of_row _ _ 0 _ _ _ HS1.out
    have s1 : z1.cell? ⟨Sb, 1, none⟩ = some (.slice Av V cv) := cell_of_row _ _ 1 _ _ _ HS1.out
    have s2 : z1.cell? ⟨Sb, 2, none⟩ = some (.slice Ac V cc) := cell_of_row _ _ 2 _ _ _ HS1.out
    have s3 : z1.cell? ⟨Sb, 3, none⟩ = some (.slice Ai V ci) := cell_of_row _ _ 3 _ _ _ HS1.out
    have s4 : z1.cell? ⟨Sb, 4, none⟩ = some (.int .i64 (atV k j2 j3 es V n).sm) := cell_of_row _ _ 4 _ _ _ HS1.out
    have s5 : z1.cell? ⟨Sb, 5, none⟩ = some (.int .i64 (atV k j2 j3 es V n).mo) := cell_of_row _ _ 5 _ _ _ HS1.out
    go_wp2_with fail
    refine (mnext_any z1 m V A L c k j1 j2 j3 j4 es xs Aof Aow cof cow (HMr.out.next HZ1.out) hV HL.out hL5 hEB (atV k j2 j3 es V n) (atV_ok (by omega) hEB n) Av Ac Ai cv cc ci (HI.out.next HZ1.out) (by rw [atV_st]; omega) (by rw [atV_st]; omega)).mono ?_
    rw [show nextV k j3 es V (atV k j2 j3 es V n) = atV k j2 j3 es V (n + 1) from rfl]
    rintro e z2 ⟨Av2, Ac2, Ai2, cv2, cc2, ci2, rfl, hi2, hz2, n1, n2, n3⟩
    have HI2 := hide hi2
    have HZ2 := hide hz2
    have HN2 := hide (And.intro n1 (And.intro n2 n3))
    have sz2 : z1.heap.size ≤ z2.heap.size := hz2.size
    clear hi2 hz2 n1 n2 n3
    clear s0 s1 s2 s3 s4 s5
    have HS2 := hide ((HZ2.out.block Sb hSz).trans HS1.out)
    have s0 : z2.cell? ⟨Sb, 0, none⟩ = some (.int .i64 (atV k j2 j3 es V n).st) := cell_of_row _ _ 0 _ _ _ HS2.out
    have s1 : z2.cell? ⟨Sb, 1, none⟩ = some (.slice Av V cv) := cell_of_row _ _ 1 _ _ _ HS2.out
    have s2 : z2.cell? ⟨Sb, 2, none⟩ = some (.slice Ac V cc) := cell_of_row _ _ 2 _ _ _ HS2.out
    have s3 : z2.cell? ⟨Sb, 3, none⟩ = some (.slice Ai V ci) := cell_of_row _ _ 3 _ _ _ HS2.out
    have s4 : z2.cell? ⟨Sb, 4, none⟩ = some (.int .i64 (atV k j2 j3 es V n).sm) := cell_of_row _ _ 4 _ _ _ HS2.out
    have s5 : z2.cell? ⟨Sb, 5, none⟩ = some (.int .i64 (atV k j2 j3 es V n).mo) := cell_of_row _ _ 5 _ _ _ HS2.out
    have f0 : z2.frozen? ⟨Sb, 0, none⟩ = false := frozen_of_row _ _ 0 _ _ HS2.out
    have f1 : z2.frozen? ⟨Sb, 1, none⟩ = false := frozen_of_row _ _ 1 _ _ HS2.out
    have f2 : z2.frozen? ⟨Sb, 2, none⟩ = false := frozen_of_row _ _ 2 _ _ HS2.out
    have f3 : z2.frozen? ⟨Sb, 3, none⟩ = false := frozen_of_row _ _ 3 _ _ HS2.out
    have f4 : z2.frozen? ⟨Sb, 4, none⟩ = false := frozen_of_row _ _ 4 _ _ HS2.out
    have f5 : z2.frozen? ⟨Sb, 5, none⟩ = false := frozen_of_row _ _ 5 _ _ HS2.out
    have hSy : Sb < z2.heap.size := by omega
    go_wp2
    obtain ⟨y4, hy4⟩ : ∃ q, (((((z2.setCell ⟨Sb, 0, none⟩ (.int .i64 (atV k j2 j3 es V (n + 1)).st)).setCell ⟨Sb, 1, none⟩ (.slice Av2 V cv2)).setCell ⟨Sb, 2, none⟩ (.slice Ac2 V cc2)).setCell ⟨Sb, 3, none⟩ (.slice Ai2 V ci2)).setCell ⟨Sb, 4, none⟩ (.int .i64 (atV k j2 j3 es V (n + 1)).sm)).setCell ⟨Sb, 5, none⟩ (.int .i64 (atV k j2 j3 es V (n + 1)).mo) = q := ⟨_, rfl⟩
    have hF := far6 z2 Sb Sb (.int .i64 (atV k j2 j3 es V (n + 1)).st) (.slice Av2 V cv2) (.slice Ac2 V cc2) (.slice Ai2 V ci2) (.int .i64 (atV k j2 j3 es V (n + 1)).sm) (.int .i64 (atV k j2 j3 es V (n + 1)).mo) HS2.out
    rw [hy4] at hF ⊢
    obtain ⟨F4, hY⟩ := hF
    have HF4 := hide F4
    have HY4 := hide hY
    clear hy4 F4 hY
    clear s0 s1 s2 s3 s4 s5 f0 f1 f2 f3 f4 f5
    have HI4 : Hid (VIn y4 (atV k j2 j3 es V (n + 1)) Av2 Ac2 Ai2) := hide ⟨HF4.out.rd HI2.out.vals HN2.out.1 (by omega) (by omega), HF4.out.rd HI2.out.chg HN2.out.2.1 (by omega) (by omega), HF4.out.rd HI2.out.inb HN2.out.2.2 (by omega) (by omega)⟩
    have HB4 := hide (((HBr.out.trans (HZ1.out.mono srw)).trans (HZ2.out.mono (show Sb ≤ z1.heap.size by omega))).trans (HF4.out.below (Nat.le_refl _) (Nat.le_refl _)))
    have HN4 : Hid (NewA u.heap.size Av2 ∧ NewA u.heap.size Ac2 ∧ NewA u.heap.size Ai2) := hide ⟨HN2.out.1.mono (by omega), HN2.out.2.1.mono (by omega), HN2.out.2.2.mono (by omega)⟩
    have hst := stepAt_of (cell_of_row _ _ 0 _ _ _ HY4.out)
    have hst0 := stepAt_of (cell_of_row _ _ 0 _ _ _ HS.out)
    rw [atV_st] at hst hst0
    go_roundw
    case rel => exact ⟨n + 1, Av2, Ac2, Ai2, cv2, cc2, ci2, by omega, HY4, HI4, HN4, HB4⟩
    case measure => rw [hst, hst0]; simp; omega
   ·obtain rfl : n = N := by omega
    rw [show ((atV k j2 j3 es V n).st == kk) = true from HT.out] at HC
    go_wp2_with fail
    refine HC.out.mono ?_
    rintro e z1 ⟨rfl, hz1⟩
    have HZ1 := hide hz1
    have sz1 : wr.heap.size ≤ z1.heap.size := hz1.size
    clear s0 s1 s2 s3 s4 s5
    clear hz1
    have HS1 := hide ((HZ1.out.block Sb hSw).trans HS.out)
    have hSz : Sb < z1.heap.size := by omega
    have hRz : w.heap.size + 1 + 1 < z1.heap.size := by omega
    have s0 : z1.cell? ⟨Sb, 0, none⟩ = some (.int .i64 (atV k j2 j3 es V n).st) := cell_of_row _ _ 0 _ _ _ HS1.out
    have s1 : z1.cell? ⟨Sb, 1, none⟩ = some (.slice Av V cv) := cell_of_row _ _ 1 _ _ _ HS1.out
    have s2 : z1.cell? ⟨Sb, 2, none⟩ = some (.slice Ac V cc) := cell_of_row _ _ 2 _ _ _ HS1.out
    have s3 : z1.cell? ⟨Sb, 3, none⟩ = some (.slice Ai V ci) := cell_of_row _ _ 3 _ _ _ HS1.out
    have s4 : z1.cell? ⟨Sb, 4, none⟩ = some (.int .i64 (atV k j2 j3 es V n).sm) := cell_of_row _ _ 4 _ _ _ HS1.out
    have s5 : z1.cell? ⟨Sb, 5, none⟩ = some (.int .i64 (atV k j2 j3 es V n).mo) := cell_of_row _ _ 5 _ _ _ HS1.out
    have HR1 := hide ((HZ1.out.block (w.heap.size + 2) (by omega)).trans ((HBr.out.block (w.heap.size + 2) (by omega)).trans HRy.out))
    have q0 : z1.cell? ⟨w.heap.size + 1 + 1, 0, none⟩ = some (.int .i64 0) := cell_of_row _ _ 0 _ _ _ HR1.out
    have q1 : z1.cell? ⟨w.heap.size + 1 + 1, 1, none⟩ = some (.slice none 0 0) := cell_of_row _ _ 1 _ _ _ HR1.out
    have q2 : z1.cell? ⟨w.heap.size + 1 + 1, 2, none⟩ = some (.slice none 0 0) := cell_of_row _ _ 2 _ _ _ HR1.out
    have q3 : z1.cell? ⟨w.heap.size + 1 + 1, 3, none⟩ = some (.slice none 0 0) := cell_of_row _ _ 3 _ _ _ HR1.out
    have q4 : z1.cell? ⟨w.heap.size + 1 + 1, 4, none⟩ = some (.int .i64 0) := cell_of_row _ _ 4 _ _ _ HR1.out
    have q5 : z1.cell? ⟨w.heap.size + 1 + 1, 5, none⟩ = some (.int .i64 0) := cell_of_row _ _ 5 _ _ _ HR1.out
    have f0 : z1.frozen? ⟨w.heap.size + 1 + 1, 0, none⟩ = false := frozen_of_row _ _ 0 _ _ HR1.out
    have f1 : z1.frozen? ⟨w.heap.size + 1 + 1, 1, none⟩ = false := frozen_of_row _ _ 1 _ _ HR1.out
    have f2 : z1.frozen? ⟨w.heap.size + 1 + 1, 2, none⟩ = false := frozen_of_row _ _ 2 _ _ HR1.out
    have f3 : z1.frozen? ⟨w.heap.size + 1 + 1, 3, none⟩ = false := frozen_of_row _ _ 3 _ _ HR1.out
    have f4 : z1.frozen? ⟨w.heap.size + 1 + 1, 4, none⟩ = false := frozen_of_row _ _ 4 _ _ HR1.out
    have f5 : z1.frozen? ⟨w.heap.size + 1 + 1, 5, none⟩ = false := frozen_of_row _ _ 5 _ _ HR1.out
    go_wp2
    obtain ⟨wf, hwf⟩ : ∃ q, (((((z1.setCell ⟨w.heap.size + 1 + 1, 0, none⟩ (.int .i64 (atV k j2 j3 es V n).st)).setCell ⟨w.heap.size + 1 + 1, 1, none⟩ (.slice Av V cv)).setCell ⟨w.heap.size + 1 + 1, 2, none⟩ (.slice Ac V cc)).setCell ⟨w.heap.size + 1 + 1, 3, none⟩ (.slice Ai V ci)).setCell ⟨w.heap.size + 1 + 1, 4, none⟩ (.int .i64 (atV k j2 j3 es V n).sm)).setCell ⟨w.heap.size + 1 + 1, 5, none⟩ (.int .i64 (atV k j2 j3 es V n).mo) = q := ⟨_, rfl⟩
    have hF := far6 z1 (w.heap.size + 1 + 1) (w.heap.size + 1 + 1) (.int .i64 (atV k j2 j3 es V n).st) (.slice Av V cv) (.slice Ac V cc) (.slice Ai V ci) (.int .i64 (atV k j2 j3 es V n).sm) (.int .i64 (atV k j2 j3 es V n).mo) HR1.out
    rw [hwf] at hF ⊢
    obtain ⟨FF, HY⟩ := hF
    obtain ⟨y0, y1, y2, y3, y4, y5⟩ := cells6 HY
    clear hwf HY
    have HIz := HI.out.next HZ1.out
    exact bodyPost_ret (v := .tuple #[.agg #[.int .i64 (atV k j2 j3 es V n).st, .slice Av V cv, .slice Ac V cc, .slice Ai V ci, .int .i64 (atV k j2 j3 es V n).sm, .int .i64 (atV k j2 j3 es V n).mo], .int .i64 0]) (by simp [results, Tryz.results34, go_sem, y0, y1, y2, y3, y4, y5]) rfl (.inr ⟨rfl, Av, Ac, Ai, cv, cc, ci, rfl, ⟨FF.rd HIz.vals HN.out.1 (by omega) (by omega), FF.rd HIz.chg HN.out.2.1 (by omega) (by omega), FF.rd HIz.inb HN.out.2.2 (by omega) (by omega)⟩, (HBw.out.trans ((HBr.out.mono (by omega)).trans (HZ1.out.mono (by omega)))).trans (FF.below (by omega) (by omega)), HN.out.1.mono (by omega), HN.out.2.1.mono (by omega), HN.out.2.2.mono (by omega)⟩)
set_option maxRecDepth 100000 in
set_option maxHeartbeats 8000000 in
theorem tillRun_any (w : World) (V : Nat) (hV : V ≤ 512) (A : Option Addr) (es : List Ed) (L c : Nat) (hL : es.length = L) (hL5 : L ≤ 80) (hE : Eds w w.heap.size A es) (hEB : edsB es) (k j1 j2 j3 j4 : Int) (P : Nat) (hP : w.heap[P]? = some (.cells #[.int .u8 k, .int .i64 j1, .int .i64 j2, .int .i64 j3, .int .i64 j4] 26)) (N : Nat) (hN : N ≤ 2000) (hT : doneF k j1 j4 (atV k j2 j3 es V N).st (atV k j2 j3 es V N).mo = true) (hF : ∀ n, n < N → doneF k j1 j4 (atV k j2 j3 es V n).st (atV k j2 j3 es V n).mo = false) :
  Calls Tryz.prog 34 #[.agg #[.int .i64 (V : Int), .slice A L c], .agg #[.int .u8 k, .int .i64 j1, .int .i64 j2, .int .i64 j3, .int .i64 j4], .func (.func 45) #[] #[.pointer (some ⟨P, 0, none⟩)]] w (TillPost w (acheckF k j1 j2 j3 j4 (V : Int) es) V (atV k j2 j3 es V N)) := by
 have HL := hide hL
 have HE := hide hE
 have hPl := (Array.getElem?_eq_some_iff.1 hP).1
 have HP := hide hP
 have HT := hide hT
 have HF := hide hF
 clear hP hT hF
 obtain ⟨E, hEe⟩ : ∃ E, acheckF k j1 j2 j3 j4 (V : Int) es = E := ⟨_, rfl⟩
 rw [hEe]
 have HEE := hide hEe
 clear hL hE hEe
 go_enter Tryz.func34, Tryz.ntmps34
 go_upto_region 1 with fail
 obtain ⟨u, hu⟩ : ∃ u, ((w.alloc (.cells #[.int .i64 (V : Int), .slice A L c] 24)).alloc (.cells #[.int .u8 k, .int .i64 j1, .int .i64 j2, .int .i64 j3, .int .i64 j4] 26)).alloc (.cells #[.int .i64 0, .slice none 0 0, .slice none 0 0, .slice none 0 0, .int .i64 0, .int .i64 0] 33) = u := ⟨_, rfl⟩
 rw [hu]
 have HU := hide (allocs3 hu)
 clear hu
 have hzu : u.heap.size = w.heap.size + 3 := HU.out.2.1
 have hz0 : w.heap.size < u.heap.size := by omega
 have hz1 : w.heap.size + 1 < u.heap.size := by omega
 have c0 : u.cell? ⟨w.heap.size, 0, none⟩ = some (.int .i64 (V : Int)) := cell_of_row _ _ 0 _ _ _ HU.out.2.2.1
 have c1 : u.cell? ⟨w.heap.size, 1, none⟩ = some (.slice A L c) := cell_of_row _ _ 1 _ _ _ HU.out.2.2.1
 have d0 : u.cell? ⟨w.heap.size + 1, 0, none⟩ = some (.int .u8 k) := cell_of_row _ _ 0 _ _ _ HU.out.2.2.2.1
 have d1 : u.cell? ⟨w.heap.size + 1, 1, none⟩ = some (.int .i64 j1) := cell_of_row _ _ 1 _ _ _ HU.out.2.2.2.1
 have d2 : u.cell? ⟨w.heap.size + 1, 2, none⟩ = some (.int .i64 j2) := cell_of_row _ _ 2 _ _ _ HU.out.2.2.2.1
 have d3 : u.cell? ⟨w.heap.size + 1, 3, none⟩ = some (.int .i64 j3) := cell_of_row _ _ 3 _ _ _ HU.out.2.2.2.1
 have d4 : u.cell? ⟨w.heap.size + 1, 4, none⟩ = some (.int .i64 j4) := cell_of_row _ _ 4 _ _ _ HU.out.2.2.2.1
 go_wp2_with fail
 have hb0 := build_any u V hV A es L c HL.out (by omega) ((HE.out.below HU.out.1 (Nat.le_refl _)).more HU.out.1.size) k j1 j2 j3 j4
 rw [HEE.out] at hb0
 refine hb0.mono ?_
 rintro e y (⟨hE0, rfl, hb⟩ | ⟨rfl, m, B, xs, rfl, hA, hm1, hm2, hMI⟩)
 all_goals clear c0 c1 d0 d1 d2 d3 d4 hb0 hz0 hz1
 ·have hE1 : (E == 0) = false := by simpa using hE0
  have hE2 : (E != 0) = true := by simpa using hE0
  have HE0 := hide hE0
  have HBy := hide hb
  have syu : u.heap.size ≤ y.heap.size := hb.size
  clear hE0 hb
  have HRy := hide ((HBy.out.block (w.heap.size + 2) (by omega)).trans HU.out.2.2.2.2)
  have hRz : w.heap.size + 1 + 1 < y.heap.size := by omega
  have q0 : y.cell? ⟨w.heap.size + 1 + 1, 0, none⟩ = some (.int .i64 0) := cell_of_row _ _ 0 _ _ _ HRy.out
  have q1 : y.cell? ⟨w.heap.size + 1 + 1, 1, none⟩ = some (.slice none 0 0) := cell_of_row _ _ 1 _ _ _ HRy.out
  have q2 : y.cell? ⟨w.heap.size + 1 + 1, 2, none⟩ = some (.slice none 0 0) := cell_of_row _ _ 2 _ _ _ HRy.out
  have q3 : y.cell? ⟨w.heap.size + 1 + 1, 3, none⟩ = some (.slice none 0 0) := cell_of_row _ _ 3 _ _ _ HRy.out
  have q4 : y.cell? ⟨w.heap.size + 1 + 1, 4, none⟩ = some (.int .i64 0) := cell_of_row _ _ 4 _ _ _ HRy.out
  have q5 : y.cell? ⟨w.heap.size + 1 + 1, 5, none⟩ = some (.int .i64 0) := cell_of_row _ _ 5 _ _ _ HRy.out
  have f0 : y.frozen? ⟨w.heap.size + 1 + 1, 0, none⟩ = false := frozen_of_row _ _ 0 _ _ HRy.out
  have f1 : y.frozen? ⟨w.heap.size + 1 + 1, 1, none⟩ = false := frozen_of_row _ _ 1 _ _ HRy.out
  have f2 : y.frozen? ⟨w.heap.size + 1 + 1, 2, none⟩ = false := frozen_of_row _ _ 2 _ _ HRy.out
  have f3 : y.frozen? ⟨w.heap.size + 1 + 1, 3, none⟩ = false := frozen_of_row _ _ 3 _ _ HRy.out
  have f4 : y.frozen? ⟨w.heap.size + 1 + 1, 4, none⟩ = false := frozen_of_row _ _ 4 _ _ HRy.out
  have f5 : y.frozen? ⟨w.heap.size + 1 + 1, 5, none⟩ = false := frozen_of_row _ _ 5 _ _ HRy.out
  go_wp2
  obtain ⟨wf, hwf⟩ : ∃ q, (((((y.setCell ⟨w.heap.size + 1 + 1, 0, none⟩ (.int .i64 0)).setCell ⟨w.heap.size + 1 + 1, 1, none⟩ (.slice none 0 0)).setCell ⟨w.heap.size + 1 + 1, 2, none⟩ (.slice none 0 0)).setCell ⟨w.heap.size + 1 + 1, 3, none⟩ (.slice none 0 0)).setCell ⟨w.heap.size + 1 + 1, 4, none⟩ (.int .i64 0)).setCell ⟨w.heap.size + 1 + 1, 5, none⟩ (.int .i64 0) = q := ⟨_, rfl⟩
  have hF := far6 y (w.heap.size + 1 + 1) (w.heap.size + 1 + 1) (.int .i64 0) (.slice none 0 0) (.slice none 0 0) (.slice none 0 0) (.int .i64 0) (.int .i64 0) HRy.out
  rw [hwf] at hF ⊢
  obtain ⟨FF, HY⟩ := hF
  obtain ⟨y0, y1, y2, y3, y4, y5⟩ := cells6 HY
  clear hwf HY
  exact bodyPost_ret (v := .tuple #[.agg #[.int .i64 0, .slice none 0 0, .slice none 0 0, .slice none 0 0, .int .i64 0, .int .i64 0], .int .i64 E]) (by simp [results, Tryz.results34, go_sem, y0, y1, y2, y3, y4, y5]) rfl (.inl ⟨HE0.out, rfl, (HU.out.1.trans (HBy.out.mono (by omega))).trans (FF.below (by omega) (by omega))⟩)
 ·obtain ⟨Aof, Aow, cof, cow, hMH⟩ := hMI.has hA HE.out.wt
  have HMY := hide hMH
  have HBu := hide hMI.below
  have syu : u.heap.size ≤ y.heap.size := hMI.below.size
  clear hMH hMI hA
  go_wp2_with fail
  refine (mstart_any y m V A L c k j1 j2 j3 j4 es xs Aof Aow cof cow HMY.out hV HL.out hL5 hEB).mono ?_
  rintro e z ⟨Av, Ac, Ai, cv, cc, ci, rfl, hi2, hz2, n1, n2, n3⟩
  have HI2 := hide hi2
  have HZ2 := hide hz2
  have HN2 := hide (And.intro n1 (And.intro n2 n3))
  have sz2 : y.heap.size ≤ z.heap.size := hz2.size
  clear hi2 hz2 n1 n2 n3
  go_wp2
  obtain ⟨z0, hz0⟩ : ∃ q, z.alloc (.cells #[.int .i64 (startV k j2 es V).st, .slice Av V cv, .slice Ac V cc, .slice Ai V ci, .int .i64 (startV k j2 es V).sm, .int .i64 (startV k j2 es V).mo] 33) = q := ⟨_, rfl⟩
  have hS0 : z0.heap[z.heap.size]? = some (.cells #[.int .i64 (startV k j2 es V).st, .slice Av V cv, .slice Ac V cc, .slice Ai V ci, .int .i64 (startV k j2 es V).sm, .int .i64 (startV k j2 es V).mo] 33) := by rw [← hz0]; exact heap_alloc_last _ _
  have hB0 : Below z.heap.size z z0 := by rw [← hz0]; exact (Below.refl _ _).alloc (Nat.le_refl _) _
  rw [hz0]
  obtain ⟨Sb, hSb⟩ : ∃ q, z.heap.size = q := ⟨_, rfl⟩
  rw [hSb] at hS0 sz2 ⊢
  have HS0 := hide hS0
  have HB0 : Hid (Below Sb z z0) := hide (by rw [← hSb]; exact hB0)
  have HI0 := hide (HI2.out.next hB0)
  have HMH := hide (HMY.out.next HZ2.out)
  have HSb := hide hSb
  have HRy := hide ((HZ2.out.block (w.heap.size + 2) (by omega)).trans ((HBu.out.block (w.heap.size + 2) (by omega)).trans HU.out.2.2.2.2))
  have HBy := hide (show Below w.heap.size w z from (HU.out.1.trans (HBu.out.mono (by omega))).trans (HZ2.out.mono (by omega)))
  have HBw := HBy
  clear hS0 hB0 hz0 hSb
  go_loopw [24] (fun _ wr => ∃ (n : Nat) (Av Ac Ai : Option Addr) (cv cc ci : Nat), n ≤ N ∧ Hid (wr.heap[Sb]? = some (.cells #[.int .i64 (atV k j2 j3 es V n).st, .slice Av V cv, .slice Ac V cc, .slice Ai V ci, .int .i64 (atV k j2 j3 es V n).sm, .int .i64 (atV k j2 j3 es V n).mo] 33)) ∧ Hid (VIn wr (atV k j2 j3 es V n) Av Ac Ai) ∧ Hid (NewA u.heap.size Av ∧ NewA u.heap.size Ac ∧ NewA u.heap.size Ai) ∧ Hid (Below Sb z wr)) (fun _ wr => N - stepAt Sb wr)
  case atStart => exact ⟨0, Av, Ac, Ai, cv, cc, ci, by omega, HS0, HI0, hide ⟨HN2.out.1.mono (by omega), HN2.out.2.1.mono (by omega), HN2.out.2.2.mono (by omega)⟩, HB0⟩
  case round =>
   have hSz0 : z.heap.size = Sb := HSb.out
   obtain ⟨n, Av, Ac, Ai, cv, cc, ci, hn, HS, HI, HN, HBr⟩ := hrel
   have srw : Sb ≤ wr.heap.size := by have := HBr.out.size; omega
   have s0 : wr.cell? ⟨Sb, 0, none⟩ = some (.int .i64 (atV k j2 j3 es V n).st) := cell_of_row _ _ 0 _ _ _ HS.out
   have s1 : wr.cell? ⟨Sb, 1, none⟩ = some (.slice Av V cv) := cell_of_row _ _ 1 _ _ _ HS.out
   have s2 : wr.cell? ⟨Sb, 2, none⟩ = some (.slice Ac V cc) := cell_of_row _ _ 2 _ _ _ HS.out
   have s3 : wr.cell? ⟨Sb, 3, none⟩ = some (.slice Ai V ci) := cell_of_row _ _ 3 _ _ _ HS.out
   have s4 : wr.cell? ⟨Sb, 4, none⟩ = some (.int .i64 (atV k j2 j3 es V n).sm) := cell_of_row _ _ 4 _ _ _ HS.out
   have s5 : wr.cell? ⟨Sb, 5, none⟩ = some (.int .i64 (atV k j2 j3 es V n).mo) := cell_of_row _ _ 5 _ _ _ HS.out
   have hSw : Sb < wr.heap.size := (Array.getElem?_eq_some_iff.1 HS.out).1
   have HPw := (HBr.out.block P (by omega)).trans ((HBy.out.block P (by omega)).trans HP.out)
   have HC := hide (run1_any wr (atV k j2 j3 es V n).st (atV k j2 j3 es V n).sm (atV k j2 j3 es V n).mo Av Ac Ai V V V cv cc ci P k j1 j2 j3 j4 HPw)
   clear HPw
   have hmr : MHas m V A L c k j1 j2 j3 j4 es xs Aof Aow cof cow wr := HMH.out.next (HBr.out.mono (by omega))
   have HMr := hide hmr
   clear hmr
   by_cases hlt : n < N
   ·rw [show doneF k j1 j4 (atV k j2 j3 es V n).st (atV k j2 j3 es V n).mo = false from HF.out n hlt] at HC
    go_wp2_with fail
    refine HC.out.mono ?_
    rintro e z1 ⟨rfl, hz1⟩
    have HZ1 := hide hz1
    have sz1 : wr.heap.size ≤ z1.heap.size := hz1.size
    clear s0 s1 s2 s3 s4 s5
    clear hz1
    have HS1 := hide ((HZ1.out.block Sb hSw).trans HS.out)
    have hSz : Sb < z1.heap.size := by omega
    have s0 : z1.cell? ⟨Sb, 0, none⟩ = some (.int .i64 (atV k j2 j3 es V n).st) := cell_of_row _ _ 0 _ _ _ HS1.out
    have s1 : z1.cell? ⟨Sb, 1, none⟩ = some (.slice Av V cv) := cell_of_row _ _ 1 _ _ _ HS1.out
    have s2 : z1.cell? ⟨Sb, 2, none⟩ = some (.slice Ac V cc) := cell_of_row _ _ 2 _ _ _ HS1.out
    have s3 : z1.cell? ⟨Sb, 3, none⟩ = some (.slice Ai V ci) := cell_of_row _ _ 3 _ _ _ HS1.out
    have s4 : z1.cell? ⟨Sb, 4, none⟩ = some (.int .i64 (atV k j2 j3 es V n).sm) := cell_of_row _ _ 4 _ _ _ HS1.out
    have s5 : z1.cell? ⟨Sb, 5, none⟩ = some (.int .i64 (atV k j2 j3 es V n).mo) := cell_of_row _ _ 5 _ _ _ HS1.out
    go_wp2_with fail
    refine (mnext_any z1 m V A L c k j1 j2 j3 j4 es xs Aof Aow cof cow (HMr.out.next HZ1.out) hV HL.out hL5 hEB (atV k j2 j3 es V n) (atV_ok (by omega) hEB n) Av Ac Ai cv cc ci (HI.out.next HZ1.out) (by rw [atV_st]; omega) (by rw [atV_st]; omega)).mono ?_
    rw [show nextV k j3 es V (atV k j2 j3 es V n) = atV k j2 j3 es V (n + 1) from rfl]
    rintro e z2 ⟨Av2, Ac2, Ai2, cv2, cc2, ci2, rfl, hi2, hz2, n1, n2, n3⟩
    have HI2 := hide hi2
    have HZ2 := hide hz2
    have HN2 := hide (And.intro n1 (And.intro n2 n3))
    have sz2 : z1.heap.size ≤ z2.heap.size := hz2.size
    clear hi2 hz2 n1 n2 n3
    clear s0 s1 s2 s3 s4 s5
    have HS2 := hide ((HZ2.out.block Sb hSz).trans HS1.out)
    have s0 : z2.cell? ⟨Sb, 0, none⟩ = some (.int .i64 (atV k j2 j3 es V n).st) := cell_of_row _ _ 0 _ _ _ HS2.out
    have s1 : z2.cell? ⟨Sb, 1, none⟩ = some (.slice Av V cv) := cell_of_row _ _ 1 _ _ _ HS2.out
    have s2 : z2.cell? ⟨Sb, 2, none⟩ = some (.slice Ac V cc) := cell_of_row _ _ 2 _ _ _ HS2.out
    have s3 : z2.cell? ⟨Sb, 3, none⟩ = some (.slice Ai V ci) := cell_of_row _ _ 3 _ _ _ HS2.out
    have s4 : z2.cell? ⟨Sb, 4, none⟩ = some (.int .i64 (atV k j2 j3 es V n).sm) := cell_of_row _ _ 4 _ _ _ HS2.out
    have s5 : z2.cell? ⟨Sb, 5, none⟩ = some (.int .i64 (atV k j2 j3 es V n).mo) := cell_of_row _ _ 5 _ _ _ HS2.out
    have f0 : z2.frozen? ⟨Sb, 0, none⟩ = false := frozen_of_row _ _ 0 _ _ HS2.out
    have f1 : z2.frozen? ⟨Sb, 1, none⟩ = false := frozen_of_row _ _ 1 _ _ HS2.out
    have f2 : z2.frozen? ⟨Sb, 2, none⟩ = false := frozen_of_row _ _ 2 _ _ HS2.out
    have f3 : z2.frozen? ⟨Sb, 3, none⟩ = false := frozen_of_row _ _ 3 _ _ HS2.out
    have f4 : z2.frozen? ⟨Sb, 4, none⟩ = false := frozen_of_row _ _ 4 _ _ HS2.out
    have f5 : z2.frozen? ⟨Sb, 5, none⟩ = false := frozen_of_row _ _ 5 _ _ HS2.out
    have hSy : Sb < z2.heap.size := by omega
    go_wp2
    obtain ⟨y4, hy4⟩ : ∃ q, (((((z2.setCell ⟨Sb, 0, none⟩ (.int .i64 (atV k j2 j3 es V (n + 1)).st)).setCell ⟨Sb, 1, none⟩ (.slice Av2 V cv2)).setCell ⟨Sb, 2, none⟩ (.slice Ac2 V cc2)).setCell ⟨Sb, 3, none⟩ (.slice Ai2 V ci2)).setCell ⟨Sb, 4, none⟩ (.int .i64 (atV k j2 j3 es V (n + 1)).sm)).setCell ⟨Sb, 5, none⟩ (.int .i64 (atV k j2 j3 es V (n + 1)).mo) = q := ⟨_, rfl⟩
    have hF := far6 z2 Sb Sb (.int .i64 (atV k j2 j3 es V (n + 1)).st) (.slice Av2 V cv2) (.slice Ac2 V cc2) (.slice Ai2 V ci2) (.int .i64 (atV k j2 j3 es V (n + 1)).sm) (.int .i64 (atV k j2 j3 es V (n + 1)).mo) HS2.out
    rw [hy4] at hF ⊢
    obtain ⟨F4, hY⟩ := hF
    have HF4 := hide F4
    have HY4 := hide hY
    clear hy4 F4 hY
    clear s0 s1 s2 s3 s4 s5 f0 f1 f2 f3 f4 f5
    have HI4 : Hid (VIn y4 (atV k j2 j3 es V (n + 1)) Av2 Ac2 Ai2) := hide ⟨HF4.out.rd HI2.out.vals HN2.out.1 (by omega) (by omega), HF4.out.rd HI2.out.chg HN2.out.2.1 (by omega) (by omega), HF4.out.rd HI2.out.inb HN2.out.2.2 (by omega) (by omega)⟩
    have HB4 := hide (((HBr.out.trans (HZ1.out.mono srw)).trans (HZ2.out.mono (show Sb ≤ z1.heap.size by omega))).trans (HF4.out.below (Nat.le_refl _) (Nat.le_refl _)))
    have HN4 : Hid (NewA u.heap.size Av2 ∧ NewA u.heap.size Ac2 ∧ NewA u.heap.size Ai2) := hide ⟨HN2.out.1.mono (by omega), HN2.out.2.1.mono (by omega), HN2.out.2.2.mono (by omega)⟩
    have hst := stepAt_of (cell_of_row _ _ 0 _ _ _ HY4.out)
    have hst0 := stepAt_of (cell_of_row _ _ 0 _ _ _ HS.out)
    rw [atV_st] at hst hst0
    go_roundw
    case rel => exact ⟨n + 1, Av2, Ac2, Ai2, cv2, cc2, ci2, by omega, HY4, HI4, HN4, HB4⟩
    case measure => rw [hst, hst0]; simp; omega
   ·obtain rfl : n = N := by omega
    rw [show doneF k j1 j4 (atV k j2 j3 es V n).st (atV k j2 j3 es V n).mo = true from HT.out] at HC
    go_wp2_with fail
    refine HC.out.mono ?_
    rintro e z1 ⟨rfl, hz1⟩
    have HZ1 := hide hz1
    have sz1 : wr.heap.size ≤ z1.heap.size := hz1.size
    clear s0 s1 s2 s3 s4 s5
    clear hz1
    have HS1 := hide ((HZ1.out.block Sb hSw).trans HS.out)
    have hSz : Sb < z1.heap.size := by omega
    have hRz : w.heap.size + 1 + 1 < z1.heap.size := by omega
    have s0 : z1.cell? ⟨Sb, 0, none⟩ = some (.int .i64 (atV k j2 j3 es V n).st) := cell_of_row _ _ 0 _ _ _ HS1.out
    have s1 : z1.cell? ⟨Sb, 1, none⟩ = some (.slice Av V cv) := cell_of_row _ _ 1 _ _ _ HS1.out
    have s2 : z1.cell? ⟨Sb, 2, none⟩ = some (.slice Ac V cc) := cell_of_row _ _ 2 _ _ _ HS1.out
    have s3 : z1.cell? ⟨Sb, 3, none⟩ = some (.slice Ai V ci) := cell_of_row _ _ 3 _ _ _ HS1.out
    have s4 : z1.cell? ⟨Sb, 4, none⟩ = some (.int .i64 (atV k j2 j3 es V n).sm) := cell_of_row _ _ 4 _ _ _ HS1.out
    have s5 : z1.cell? ⟨Sb, 5, none⟩ = some (.int .i64 (atV k j2 j3 es V n).mo) := cell_of_row _ _ 5 _ _ _ HS1.out
    have HR1 := hide ((HZ1.out.block (w.heap.size + 2) (by omega)).trans ((HBr.out.block (w.heap.size + 2) (by omega)).trans HRy.out))
    have q0 : z1.cell? ⟨w.heap.size + 1 + 1, 0, none⟩ = some (.int .i64 0) := cell_of_row _ _ 0 _ _ _ HR1.out
    have q1 : z1.cell? ⟨w.heap.size + 1 + 1, 1, none⟩ = some (.slice none 0 0) := cell_of_row _ _ 1 _ _ _ HR1.out
    have q2 : z1.cell? ⟨w.heap.size + 1 + 1, 2, none⟩ = some (.slice none 0 0) := cell_of_row _ _ 2 _ _ _ HR1.out
    have q3 : z1.cell? ⟨w.heap.size + 1 + 1, 3, none⟩ = some (.slice none 0 0) := cell_of_row _ _ 3 _ _ _ HR1.out
    have q4 : z1.cell? ⟨w.heap.size + 1 + 1, 4, none⟩ = some (.int .i64 0) := cell_of_row _ _ 4 _ _ _ HR1.out
    have q5 : z1.cell? ⟨w.heap.size + 1 + 1, 5, none⟩ = some (.int .i64 0) := cell_of_row _ _ 5 _ _ _ HR1.out
    have f0 : z1.frozen? ⟨w.heap.size + 1 + 1, 0, none⟩ = false := frozen_of_row _ _ 0 _ _ HR1.out
    have f1 : z1.frozen? ⟨w.heap.size + 1 + 1, 1, none⟩ = false := frozen_of_row _ _ 1 _ _ HR1.out
    have f2 : z1.frozen? ⟨w.heap.size + 1 + 1, 2, none⟩ = false := frozen_of_row _ _ 2 _ _ HR1.out
    have f3 : z1.frozen? ⟨w.heap.size + 1 + 1, 3, none⟩ = false := frozen_of_row _ _ 3 _ _ HR1.out
    have f4 : z1.frozen? ⟨w.heap.size + 1 + 1, 4, none⟩ = false := frozen_of_row _ _ 4 _ _ HR1.out
    have f5 : z1.frozen? ⟨w.heap.size + 1 + 1, 5, none⟩ = false := frozen_of_row _ _ 5 _ _ HR1.out
    go_wp2
    obtain ⟨wf, hwf⟩ : ∃ q, (((((z1.setCell ⟨w.heap.size + 1 + 1, 0, none⟩ (.int .i64 (atV k j2 j3 es V n).st)).setCell ⟨w.heap.size + 1 + 1, 1, none⟩ (.slice Av V cv)).setCell ⟨w.heap.size + 1 + 1, 2, none⟩ (.slice Ac V cc)).setCell ⟨w.heap.size + 1 + 1, 3, none⟩ (.slice Ai V ci)).setCell ⟨w.heap.size + 1 + 1, 4, none⟩ (.int .i64 (atV k j2 j3 es V n).sm)).setCell ⟨w.heap.size + 1 + 1, 5, none⟩ (.int .i64 (atV k j2 j3 es V n).mo) = q := ⟨_, rfl⟩
    have hF := far6 z1 (w.heap.size + 1 + 1) (w.heap.size + 1 + 1) (.int .i64 (atV k j2 j3 es V n).st) (.slice Av V cv) (.slice Ac V cc) (.slice Ai V ci) (.int .i64 (atV k j2 j3 es V n).sm) (.int .i64 (atV k j2 j3 es V n).mo) HR1.out
    rw [hwf] at hF ⊢
    obtain ⟨FF, HY⟩ := hF
    obtain ⟨y0, y1, y2, y3, y4, y5⟩ := cells6 HY
    clear hwf HY
    have HIz := HI.out.next HZ1.out
    exact bodyPost_ret (v := .tuple #[.agg #[.int .i64 (atV k j2 j3 es V n).st, .slice Av V cv, .slice Ac V cc, .slice Ai V ci, .int .i64 (atV k j2 j3 es V n).sm, .int .i64 (atV k j2 j3 es V n).mo], .int .i64 0]) (by simp [results, Tryz.results34, go_sem, y0, y1, y2, y3, y4, y5]) rfl (.inr ⟨rfl, Av, Ac, Ai, cv, cc, ci, rfl, ⟨FF.rd HIz.vals HN.out.1 (by omega) (by omega), FF.rd HIz.chg HN.out.2.1 (by omega) (by omega), FF.rd HIz.inb HN.out.2.2 (by omega) (by omega)⟩, (HBw.out.trans ((HBr.out.mono (by omega)).trans (HZ1.out.mono (by omega)))).trans (FF.below (by omega) (by omega)), HN.out.1.mono (by omega), HN.out.2.1.mono (by omega), HN.out.2.2.mono (by omega)⟩)
end Go.Proofs.YtpgbjabifhjogaaGreat

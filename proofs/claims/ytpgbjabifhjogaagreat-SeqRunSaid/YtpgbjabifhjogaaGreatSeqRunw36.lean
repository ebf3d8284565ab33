/- Same of states, of the program and of the document. -/
import Derived.Test.YtpgbjabifhjogaaGreatSeqRunw35
namespace Go.Proofs.YtpgbjabifhjogaaGreat
open Go.RowKit
set_option linter.unusedVariables false
set_option linter.unusedSimpArgs false
/-- a state -/
structure SV where
 st : Int
 vals : List Int
 chg : List Bool
 inb : List Ml
 sm : Int
 mo : Int
deriving DecidableEq
/-- a state's rows in memory -/
structure VIn (w : World) (p : SV) (Av Ac Ai : Option Addr) : Prop where
 vals : Rd w w.heap.size Av (i64s p.vals)
 chg : Rd w w.heap.size Ac (bools p.chg)
 inb : Rd w w.heap.size Ai (mlFlat p.inb)
theorem VIn.next {w w' : World} {p : SV} {Av Ac Ai : Option Addr} (h : VIn w p Av Ac Ai) (hb : Below w.heap.size w w') : VIn w' p Av Ac Ai := ⟨h.vals.next hb, h.chg.next hb, h.inb.next hb⟩
def VLen (p : SV) (nv nc ni : Nat) : Prop := p.vals.length = nv ∧ p.chg.length = nc ∧ p.inb.length = ni
/-- are two states the same? -/
def sameV (p q : SV) : Bool := decide (p.st = q.st) && decide (p.sm = q.sm) && decide (p.mo = q.mo) && eqL p.vals q.vals && eqL p.chg q.chg && eqL (p.inb.map nm) (q.inb.map nm)
set_option maxRecDepth 100000 in
set_option maxHeartbeats 16000000 in
theorem qsame_any (w : World) (p1 : SV) (Av1 Ac1 Ai1 : Option Addr) (nv1 nc1 ni1 cv1 cc1 ci1 : Nat) (hl1 : VLen p1 nv1 nc1 ni1) (hi1 : VIn w p1 Av1 Ac1 Ai1) (p2 : SV) (Av2 Ac2 Ai2 : Option Addr) (nv2 nc2 ni2 cv2 cc2 ci2 : Nat) (hl2 : VLen p2 nv2 nc2 ni2) (hi2 : VIn w p2 Av2 Ac2 Ai2) (bv : nv1 ≤ 9223372036854775807) (bc : nc1 ≤ 9223372036854775807) (bi : ni1 ≤ 9223372036854775807) :
  Calls Tryz.prog 23 #[.agg #[.int .i64 p1.st, .slice Av1 nv1 cv1, .slice Ac1 nc1 cc1, .slice Ai1 ni1 ci1, .int .i64 p1.sm, .int .i64 p1.mo], .agg #[.int .i64 p2.st, .slice Av2 nv2 cv2, .slice Ac2 nc2 cc2, .slice Ai2 ni2 ci2, .int .i64 p2.sm, .int .i64 p2.mo]] w fun e w' => e = .returned (.bool (sameV p1 p2)) ∧ Below w.heap.size w w' := by
 obtain ⟨u, hv⟩ : ∃ v, (w.alloc (.cells #[.int .i64 p1.st, .slice Av1 nv1 cv1, .slice Ac1 nc1 cc1, .slice Ai1 ni1 ci1, .int .i64 p1.sm, .int .i64 p1.mo] 33)).alloc (.cells #[.int .i64 p2.st, .slice Av2 nv2 cv2, .slice Ac2 nc2 cc2, .slice Ai2 ni2 ci2, .int .i64 p2.sm, .int .i64 p2.mo] 33) = v := ⟨_, rfl⟩
 have hz : w.heap.size + 2 ≤ u.heap.size := by rw [← hv]; simp
 have hb : Below w.heap.size w u := by rw [← hv]; exact ((Below.refl _ _).alloc (Nat.le_refl _) _).alloc (by simp) _
 have q1 : u.heap[w.heap.size]? = some (.cells #[.int .i64 p1.st, .slice Av1 nv1 cv1, .slice Ac1 nc1 cc1, .slice Ai1 ni1 ci1, .int .i64 p1.sm, .int .i64 p1.mo] 33) := by rw [← hv]; exact (Below.heap_alloc _ _ _ (by simp)).trans (heap_alloc_last w _)
 have q2 : u.heap[w.heap.size + 1]? = some (.cells #[.int .i64 p2.st, .slice Av2 nv2 cv2, .slice Ac2 nc2 cc2, .slice Ai2 ni2 ci2, .int .i64 p2.sm, .int .i64 p2.mo] 33) := by
  rw [← hv]
  have := heap_alloc_last (w.alloc (.cells #[.int .i64 p1.st, .slice Av1 nv1 cv1, .slice Ac1 nc1 cc1, .slice Ai1 ni1 ci1, .int .i64 p1.sm, .int .i64 p1.mo] 33)) (.cells #[.int .i64 p2.st, .slice Av2 nv2 cv2, .slice Ac2 nc2 cc2, .slice Ai2 ni2 ci2, .int .i64 p2.sm, .int .i64 p2.mo] 33)
  rw [World.size_alloc] at this
  exact this
 have HB := hide hb
 have HVB := hide (show Below w.heap.size w ((w.alloc (.cells #[.int .i64 p1.st, .slice Av1 nv1 cv1, .slice Ac1 nc1 cc1, .slice Ai1 ni1 ci1, .int .i64 p1.sm, .int .i64 p1.mo] 33)).alloc (.cells #[.int .i64 p2.st, .slice Av2 nv2 cv2, .slice Ac2 nc2 cc2, .slice Ai2 ni2 ci2, .int .i64 p2.sm, .int .i64 p2.mo] 33)) by rw [hv]; exact hb)
 have HV := hide hv
 have HL1 := hide hl1; have HL2 := hide hl2
 have HI1 := hide (hi1.next hb); have HI2 := hide (hi2.next hb)
 have X0 := hide (show u.cell? ⟨w.heap.size, 0, none⟩ = some (.int .i64 p1.st) from cell_of_row _ _ 0 _ _ _ q1)
 have X4 := hide (show u.cell? ⟨w.heap.size, 4, none⟩ = some (.int .i64 p1.sm) from cell_of_row _ _ 4 _ _ _ q1)
 have X5 := hide (show u.cell? ⟨w.heap.size, 5, none⟩ = some (.int .i64 p1.mo) from cell_of_row _ _ 5 _ _ _ q1)
 have Y0 := hide (show u.cell? ⟨w.heap.size + 1, 0, none⟩ = some (.int .i64 p2.st) from cell_of_row _ _ 0 _ _ _ q2)
 have Y4 := hide (show u.cell? ⟨w.heap.size + 1, 4, none⟩ = some (.int .i64 p2.sm) from cell_of_row _ _ 4 _ _ _ q2)
 have Y5 := hide (show u.cell? ⟨w.heap.size + 1, 5, none⟩ = some (.int .i64 p2.mo) from cell_of_row _ _ 5 _ _ _ q2)
 have X1 := hide (show u.cell? ⟨w.heap.size, 1, none⟩ = some (.slice Av1 nv1 cv1) from cell_of_row _ _ 1 _ _ _ q1)
 have X2 := hide (show u.cell? ⟨w.heap.size, 2, none⟩ = some (.slice Ac1 nc1 cc1) from cell_of_row _ _ 2 _ _ _ q1)
 have X3 := hide (show u.cell? ⟨w.heap.size, 3, none⟩ = some (.slice Ai1 ni1 ci1) from cell_of_row _ _ 3 _ _ _ q1)
 have Y1 := hide (show u.cell? ⟨w.heap.size + 1, 1, none⟩ = some (.slice Av2 nv2 cv2) from cell_of_row _ _ 1 _ _ _ q2)
 have Y2 := hide (show u.cell? ⟨w.heap.size + 1, 2, none⟩ = some (.slice Ac2 nc2 cc2) from cell_of_row _ _ 2 _ _ _ q2)
 have Y3 := hide (show u.cell? ⟨w.heap.size + 1, 3, none⟩ = some (.slice Ai2 ni2 ci2) from cell_of_row _ _ 3 _ _ _ q2)
 have KU0 := hide (Below.refl u.heap.size u)
 clear q1 q2 hb hv hl1 hl2 hi1 hi2
 by_cases h_st : p1.st = p2.st
 rotate_left
 ·have hs_st : (p1.st == p2.st) = false := by simpa using h_st
  have hn_st : (p1.st != p2.st) = true := by simpa using h_st
  have HF : Hid (sameV p1 p2 = false) := hide (by simp [sameV, h_st])
  clear h_st
  have x0 := X0.out
  have x1 := X1.out
  have x2 := X2.out
  have x3 := X3.out
  have x4 := X4.out
  have x5 := X5.out
  have y0 := Y0.out
  have y1 := Y1.out
  have y2 := Y2.out
  have y3 := Y3.out
  have y4 := Y4.out
  have y5 := Y5.out
  go_enter Tryz.func23, Tryz.ntmps23
  go_wp2
  go_ret
  exact ⟨ret_b HF.out.symm, HVB.out⟩
 have H_st := hide h_st
 have hs_st : (p1.st == p2.st) = true := by simpa using h_st
 have hn_st : (p1.st != p2.st) = false := by simpa using h_st
 clear h_st
 by_cases h_sm : p1.sm = p2.sm
 rotate_left
 ·have hs_sm : (p1.sm == p2.sm) = false := by simpa using h_sm
  have hn_sm : (p1.sm != p2.sm) = true := by simpa using h_sm
  have HF : Hid (sameV p1 p2 = false) := hide (by simp [sameV, h_sm])
  clear h_sm
  have x0 := X0.out
  have x1 := X1.out
  have x2 := X2.out
  have x3 := X3.out
  have x4 := X4.out
  have x5 := X5.out
  have y0 := Y0.out
  have y1 := Y1.out
  have y2 := Y2.out
  have y3 := Y3.out
  have y4 := Y4.out
  have y5 := Y5.out
  go_enter Tryz.func23, Tryz.ntmps23
  go_wp2
  go_ret
  exact ⟨ret_b HF.out.symm, HVB.out⟩
 have H_sm := hide h_sm
 have hs_sm : (p1.sm == p2.sm) = true := by simpa using h_sm
 have hn_sm : (p1.sm != p2.sm) = false := by simpa using h_sm
 clear h_sm
 by_cases h_mo : p1.mo = p2.mo
 rotate_left
 ·have hs_mo : (p1.mo == p2.mo) = false := by simpa using h_mo
  have hn_mo : (p1.mo != p2.mo) = true := by simpa using h_mo
  have HF : Hid (sameV p1 p2 = false) := hide (by simp [sameV, h_mo])
  clear h_mo
  have x0 := X0.out
  have x1 := X1.out
  have x2 := X2.out
  have x3 := X3.out
  have x4 := X4.out
  have x5 := X5.out
  have y0 := Y0.out
  have y1 := Y1.out
  have y2 := Y2.out
  have y3 := Y3.out
  have y4 := Y4.out
  have y5 := Y5.out
  go_enter Tryz.func23, Tryz.ntmps23
  go_wp2
  go_ret
  exact ⟨ret_b HF.out.symm, HVB.out⟩
 have H_mo := hide h_mo
 have hs_mo : (p1.mo == p2.mo) = true := by simpa using h_mo
 have hn_mo : (p1.mo != p2.mo) = false := by simpa using h_mo
 clear h_mo
 have x0 := X0.out
 have x4 := X4.out
 have x5 := X5.out
 have y0 := Y0.out
 have y4 := Y4.out
 have y5 := Y5.out
 go_enter Tryz.func23, Tryz.ntmps23
 have x1 : u.cell? ⟨w.heap.size, 1, none⟩ = some (.slice Av1 nv1 cv1) := (KU0.out.cell (p := ⟨w.heap.size, 1, none⟩) (by show w.heap.size < _; omega)).trans X1.out
 have y1 : u.cell? ⟨w.heap.size + 1, 1, none⟩ = some (.slice Av2 nv2 cv2) := (KU0.out.cell (p := ⟨w.heap.size + 1, 1, none⟩) (by show w.heap.size + 1 < _; omega)).trans Y1.out
 go_wp2_with fail
 rw [HV.out]
 refine (equalL_any u Av1 Av2 p1.vals p2.vals nv1 nv2 cv1 cv2 HL1.out.1 HL2.out.1 (by omega) (HI1.out.next KU0.out).vals (HI2.out.next KU0.out).vals).mono ?_
 rintro e z1 ⟨rfl, hz⟩
 have KU1 := hide (KU0.out.trans (hz.mono KU0.out.size))
 have szz1 := KU1.out.size
 clear hz x1 y1
 clear x0 y0 x4 y4 x5 y5
 rcases hq0 : eqL p1.vals p2.vals with _ | _
 ·have HF : Hid (sameV p1 p2 = false) := hide (by simp [sameV, hq0])
  have HBf := hide (HB.out.trans (KU1.out.mono HB.out.size))
  clear hq0
  go_wp2
  go_ret
  exact ⟨ret_b HF.out.symm, HBf.out⟩
 have HQ0 := hide hq0
 clear hq0
 have x2 : z1.cell? ⟨w.heap.size, 2, none⟩ = some (.slice Ac1 nc1 cc1) := (KU1.out.cell (p := ⟨w.heap.size, 2, none⟩) (by show w.heap.size < _; omega)).trans X2.out
 have y2 : z1.cell? ⟨w.heap.size + 1, 2, none⟩ = some (.slice Ac2 nc2 cc2) := (KU1.out.cell (p := ⟨w.heap.size + 1, 2, none⟩) (by show w.heap.size + 1 < _; omega)).trans Y2.out
 go_wp2_with fail
 refine (equalB_any z1 Ac1 Ac2 p1.chg p2.chg nc1 nc2 cc1 cc2 HL1.out.2.1 HL2.out.2.1 (by omega) (HI1.out.next KU1.out).chg (HI2.out.next KU1.out).chg).mono ?_
 rintro e z2 ⟨rfl, hz⟩
 have KU2 := hide (KU1.out.trans (hz.mono KU1.out.size))
 have szz2 := KU2.out.size
 clear hz x2 y2
 rcases hq1 : eqL p1.chg p2.chg with _ | _
 ·have HF : Hid (sameV p1 p2 = false) := hide (by simp [sameV, hq1])
  have HBf := hide (HB.out.trans (KU2.out.mono HB.out.size))
  clear hq1
  go_wp2
  go_ret
  exact ⟨ret_b HF.out.symm, HBf.out⟩
 have HQ1 := hide hq1
 clear hq1
 have x3 : z2.cell? ⟨w.heap.size, 3, none⟩ = some (.slice Ai1 ni1 ci1) := (KU2.out.cell (p := ⟨w.heap.size, 3, none⟩) (by show w.heap.size < _; omega)).trans X3.out
 have y3 : z2.cell? ⟨w.heap.size + 1, 3, none⟩ = some (.slice Ai2 ni2 ci2) := (KU2.out.cell (p := ⟨w.heap.size + 1, 3, none⟩) (by show w.heap.size + 1 < _; omega)).trans Y3.out
 go_wp2_with fail
 refine (isame_any z2 Ai1 Ai2 p1.inb p2.inb ni1 ni2 ci1 ci2 HL1.out.2.2 HL2.out.2.2 (by omega) (HI1.out.next KU2.out).inb (HI2.out.next KU2.out).inb).mono ?_
 rintro e z3 ⟨rfl, hz⟩
 have KU3 := hide (KU2.out.trans (hz.mono KU2.out.size))
 have szz3 := KU3.out.size
 clear hz x3 y3
 rcases hq2 : eqL (p1.inb.map nm) (p2.inb.map nm) with _ | _
 ·have HF : Hid (sameV p1 p2 = false) := hide (by simp [sameV, hq2])
  have HBf := hide (HB.out.trans (KU3.out.mono HB.out.size))
  clear hq2
  go_wp2
  go_ret
  exact ⟨ret_b HF.out.symm, HBf.out⟩
 have HQ2 := hide hq2
 clear hq2
 have HF : Hid (sameV p1 p2 = true) := hide (by simp [sameV, H_st.out, H_sm.out, H_mo.out, HQ0.out, HQ1.out, HQ2.out])
 have HBf := hide (HB.out.trans (KU3.out.mono HB.out.size))
 go_wp2
 go_ret
 exact ⟨ret_b HF.out.symm, HBf.out⟩
set_option maxRecDepth 100000 in
set_option maxHeartbeats 16000000 in
theorem qrsame_any (w : World) (p1 : SV) (Av1 Ac1 Ai1 : Option Addr) (nv1 nc1 ni1 cv1 cc1 ci1 : Nat) (hl1 : VLen p1 nv1 nc1 ni1) (hi1 : VIn w p1 Av1 Ac1 Ai1) (p2 : SV) (Av2 Ac2 Ai2 : Option Addr) (nv2 nc2 ni2 cv2 cc2 ci2 : Nat) (hl2 : VLen p2 nv2 nc2 ni2) (hi2 : VIn w p2 Av2 Ac2 Ai2) (bv : nv1 ≤ 9223372036854775807) (bc : nc1 ≤ 9223372036854775807) (bi : ni1 ≤ 9223372036854775807) :
  Calls Tryz.prog 14 #[.agg #[.int .i64 p1.st, .slice Av1 nv1 cv1, .slice Ac1 nc1 cc1, .slice Ai1 ni1 ci1, .int .i64 p1.sm, .int .i64 p1.mo], .agg #[.int .i64 p2.st, .slice Av2 nv2 cv2, .slice Ac2 nc2 cc2, .slice Ai2 ni2 ci2, .int .i64 p2.sm, .int .i64 p2.mo]] w fun e w' => e = .returned (.bool (sameV p1 p2)) ∧ Below w.heap.size w w' := by
 obtain ⟨u, hv⟩ : ∃ v, (w.alloc (.cells #[.int .i64 p1.st, .slice Av1 nv1 cv1, .slice Ac1 nc1 cc1, .slice Ai1 ni1 ci1, .int .i64 p1.sm, .int .i64 p1.mo] 33)).alloc (.cells #[.int .i64 p2.st, .slice Av2 nv2 cv2, .slice Ac2 nc2 cc2, .slice Ai2 ni2 ci2, .int .i64 p2.sm, .int .i64 p2.mo] 33) = v := ⟨_, rfl⟩
 have hz : w.heap.size + 2 ≤ u.heap.size := by rw [← hv]; simp
 have hb : Below w.heap.size w u := by rw [← hv]; exact ((Below.refl _ _).alloc (Nat.le_refl _) _).alloc (by simp) _
 have q1 : u.heap[w.heap.size]? = some (.cells #[.int .i64 p1.st, .slice Av1 nv1 cv1, .slice Ac1 nc1 cc1, .slice Ai1 ni1 ci1, .int .i64 p1.sm, .int .i64 p1.mo] 33) := by rw [← hv]; exact (Below.heap_alloc _ _ _ (by simp)).trans (heap_alloc_last w _)
 have q2 : u.heap[w.heap.size + 1]? = some (.cells #[.int .i64 p2.st, .slice Av2 nv2 cv2, .slice Ac2 nc2 cc2, .slice Ai2 ni2 ci2, .int .i64 p2.sm, .int .i64 p2.mo] 33) := by
  rw [← hv]
  have := heap_alloc_last (w.alloc (.cells #[.int .i64 p1.st, .slice Av1 nv1 cv1, .slice Ac1 nc1 cc1, .slice Ai1 ni1 ci1, .int .i64 p1.sm, .int .i64 p1.mo] 33)) (.cells #[.int .i64 p2.st, .slice Av2 nv2 cv2, .slice Ac2 nc2 cc2, .slice Ai2 ni2 ci2, .int .i64 p2.sm, .int .i64 p2.mo] 33)
  rw [World.size_alloc] at this
  exact this
 have HB := hide hb
 have HVB := hide (show Below w.heap.size w ((w.alloc (.cells #[.int .i64 p1.st, .slice Av1 nv1 cv1, .slice Ac1 nc1 cc1, .slice Ai1 ni1 ci1, .int .i64 p1.sm, .int .i64 p1.mo] 33)).alloc (.cells #[.int .i64 p2.st, .slice Av2 nv2 cv2, .slice Ac2 nc2 cc2, .slice Ai2 ni2 ci2, .int .i64 p2.sm, .int .i64 p2.mo] 33)) by rw [hv]; exact hb)
 have HV := hide hv
 have HL1 := hide hl1; have HL2 := hide hl2
 have HI1 := hide (hi1.next hb); have HI2 := hide (hi2.next hb)
 have X0 := hide (show u.cell? ⟨w.heap.size, 0, none⟩ = some (.int .i64 p1.st) from cell_of_row _ _ 0 _ _ _ q1)
 have X4 := hide (show u.cell? ⟨w.heap.size, 4, none⟩ = some (.int .i64 p1.sm) from cell_of_row _ _ 4 _ _ _ q1)
 have X5 := hide (show u.cell? ⟨w.heap.size, 5, none⟩ = some (.int .i64 p1.mo) from cell_of_row _ _ 5 _ _ _ q1)
 have Y0 := hide (show u.cell? ⟨w.heap.size + 1, 0, none⟩ = some (.int .i64 p2.st) from cell_of_row _ _ 0 _ _ _ q2)
 have Y4 := hide (show u.cell? ⟨w.heap.size + 1, 4, none⟩ = some (.int .i64 p2.sm) from cell_of_row _ _ 4 _ _ _ q2)
 have Y5 := hide (show u.cell? ⟨w.heap.size + 1, 5, none⟩ = some (.int .i64 p2.mo) from cell_of_row _ _ 5 _ _ _ q2)
 have X1 := hide (show u.cell? ⟨w.heap.size, 1, none⟩ = some (.slice Av1 nv1 cv1) from cell_of_row _ _ 1 _ _ _ q1)
 have X2 := hide (show u.cell? ⟨w.heap.size, 2, none⟩ = some (.slice Ac1 nc1 cc1) from cell_of_row _ _ 2 _ _ _ q1)
 have X3 := hide (show u.cell? ⟨w.heap.size, 3, none⟩ = some (.slice Ai1 ni1 ci1) from cell_of_row _ _ 3 _ _ _ q1)
 have Y1 := hide (show u.cell? ⟨w.heap.size + 1, 1, none⟩ = some (.slice Av2 nv2 cv2) from cell_of_row _ _ 1 _ _ _ q2)
 have Y2 := hide (show u.cell? ⟨w.heap.size + 1, 2, none⟩ = some (.slice Ac2 nc2 cc2) from cell_of_row _ _ 2 _ _ _ q2)
 have Y3 := hide (show u.cell? ⟨w.heap.size + 1, 3, none⟩ = some (.slice Ai2 ni2 ci2) from cell_of_row _ _ 3 _ _ _ q2)
 have KU0 := hide (Below.refl u.heap.size u)
 clear q1 q2 hb hv hl1 hl2 hi1 hi2
 by_cases h_st : p1.st = p2.st
 rotate_left
 ·have hs_st : (p1.st == p2.st) = false := by simpa using h_st
  have hn_st : (p1.st != p2.st) = true := by simpa using h_st
  have HF : Hid (sameV p1 p2 = false) := hide (by simp [sameV, h_st])
  clear h_st
  have x0 := X0.out
  have x1 := X1.out
  have x2 := X2.out
  have x3 := X3.out
  have x4 := X4.out
  have x5 := X5.out
  have y0 := Y0.out
  have y1 := Y1.out
  have y2 := Y2.out
  have y3 := Y3.out
  have y4 := Y4.out
  have y5 := Y5.out
  go_enter Tryz.func14, Tryz.ntmps14
  go_wp2
  go_ret
  exact ⟨ret_b HF.out.symm, HVB.out⟩
 have H_st := hide h_st
 have hs_st : (p1.st == p2.st) = true := by simpa using h_st
 have hn_st : (p1.st != p2.st) = false := by simpa using h_st
 clear h_st
 by_cases h_sm : p1.sm = p2.sm
 rotate_left
 ·have hs_sm : (p1.sm == p2.sm) = false := by simpa using h_sm
  have hn_sm : (p1.sm != p2.sm) = true := by simpa using h_sm
  have HF : Hid (sameV p1 p2 = false) := hide (by simp [sameV, h_sm])
  clear h_sm
  have x0 := X0.out
  have x1 := X1.out
  have x2 := X2.out
  have x3 := X3.out
  have x4 := X4.out
  have x5 := X5.out
  have y0 := Y0.out
  have y1 := Y1.out
  have y2 := Y2.out
  have y3 := Y3.out
  have y4 := Y4.out
  have y5 := Y5.out
  go_enter Tryz.func14, Tryz.ntmps14
  go_wp2
  go_ret
  exact ⟨ret_b HF.out.symm, HVB.out⟩
 have H_sm := hide h_sm
 have hs_sm : (p1.sm == p2.sm) = true := by simpa using h_sm
 have hn_sm : (p1.sm != p2.sm) = false := by simpa using h_sm
 clear h_sm
 by_cases h_mo : p1.mo = p2.mo
 rotate_left
 ·have hs_mo : (p1.mo == p2.mo) = false := by simpa using h_mo
  have hn_mo : (p1.mo != p2.mo) = true := by simpa using h_mo
  have HF : Hid (sameV p1 p2 = false) := hide (by simp [sameV, h_mo])
  clear h_mo
  have x0 := X0.out
  have x1 := X1.out
  have x2 := X2.out
  have x3 := X3.out
  have x4 := X4.out
  have x5 := X5.out
  have y0 := Y0.out
  have y1 := Y1.out
  have y2 := Y2.out
  have y3 := Y3.out
  have y4 := Y4.out
  have y5 := Y5.out
  go_enter Tryz.func14, Tryz.ntmps14
  go_wp2
  go_ret
  exact ⟨ret_b HF.out.symm, HVB.out⟩
 have H_mo := hide h_mo
 have hs_mo : (p1.mo == p2.mo) = true := by simpa using h_mo
 have hn_mo : (p1.mo != p2.mo) = false := by simpa using h_mo
 clear h_mo
 by_cases h1 : nv1 = nv2
 rotate_left
 ·have hz1 : ((nv1 : Int) == (nv2 : Int)) = false := by simp; omega
  have hy1 : ((nv1 : Int) != (nv2 : Int)) = true := by simp; omega
  have HF : Hid (sameV p1 p2 = false) := hide (by have e : eqL p1.vals p2.vals = false := eqL_len (by rw [HL1.out.1, HL2.out.1]; exact h1); simp [sameV, e])
  have x0 := X0.out
  have x1 := X1.out
  have x2 := X2.out
  have x3 := X3.out
  have x4 := X4.out
  have x5 := X5.out
  have y0 := Y0.out
  have y1 := Y1.out
  have y2 := Y2.out
  have y3 := Y3.out
  have y4 := Y4.out
  have y5 := Y5.out
  go_enter Tryz.func14, Tryz.ntmps14
  go_wp2
  go_ret
  exact ⟨ret_b HF.out.symm, HVB.out⟩
 subst h1
 by_cases h2 : nc1 = nc2
 rotate_left
 ·have hz2 : ((nc1 : Int) == (nc2 : Int)) = false := by simp; omega
  have hy2 : ((nc1 : Int) != (nc2 : Int)) = true := by simp; omega
  have HF : Hid (sameV p1 p2 = false) := hide (by have e : eqL p1.chg p2.chg = false := eqL_len (by rw [HL1.out.2.1, HL2.out.2.1]; exact h2); simp [sameV, e])
  have x0 := X0.out
  have x1 := X1.out
  have x2 := X2.out
  have x3 := X3.out
  have x4 := X4.out
  have x5 := X5.out
  have y0 := Y0.out
  have y1 := Y1.out
  have y2 := Y2.out
  have y3 := Y3.out
  have y4 := Y4.out
  have y5 := Y5.out
  go_enter Tryz.func14, Tryz.ntmps14
  go_wp2
  go_ret
  exact ⟨ret_b HF.out.symm, HVB.out⟩
 subst h2
 have x0 := X0.out
 have x1 := X1.out
 have x2 := X2.out
 have x3 := X3.out
 have x4 := X4.out
 have x5 := X5.out
 have y0 := Y0.out
 have y1 := Y1.out
 have y2 := Y2.out
 have y3 := Y3.out
 have y4 := Y4.out
 have y5 := Y5.out
 go_enter Tryz.func14, Tryz.ntmps14
 go_wp2_with fail
 rw [HV.out]
 refine (rmsame_any u Ai1 Ai2 p1.inb p2.inb ni1 ni2 ci1 ci2 HL1.out.2.2 HL2.out.2.2 bi HI1.out.inb HI2.out.inb).mono ?_
 rintro e z ⟨rfl, hz⟩
 have KU := hide hz
 have KP : Hid (Kept u z) := hide (Kept.of_below hz)
 clear KU0 hz x0 y0 x1 y1 x2 y2 x3 y3 x4 y4 x5 y5
 rcases hq : eqL (p1.inb.map nm) (p2.inb.map nm) with _ | _
 ·have HF : Hid (sameV p1 p2 = false) := hide (by simp [sameV, hq])
  have HBf := hide (HB.out.trans (KU.out.mono HB.out.size))
  clear hq
  go_wp2
  go_ret
  exact ⟨ret_b HF.out.symm, HBf.out⟩
 ·have HM := hide hq
  clear hq
  go_wp2
  go_loopw [5] (fun vi wr => ∃ i : Nat, i ≤ nv1 ∧ vi = .int .i64 i ∧ Hid (eqL p1.vals p2.vals = eqL (p1.vals.drop i) (p2.vals.drop i)) ∧ Hid (Kept u wr) ∧ Hid (Below u.heap.size u wr)) (fun vi _ => nv1 - (intOf vi).toNat)
  case atStart => exact ⟨0, by omega, rfl, hide rfl, KP, KU⟩
  case round =>
   clear KP KU
   obtain ⟨i, hi, rfl, heq, hkr, hbr⟩ := hrel
   have xr : wr.cell? ⟨w.heap.size, 1, none⟩ = some (.slice Av1 nv1 cv1) := (hkr.out ⟨w.heap.size, 1, none⟩ (by show w.heap.size < _; omega)).trans X1.out
   by_cases hlt : i < nv1
   ·have hi1 : i < p1.vals.length := by rw [HL1.out.1]; exact hlt
    have hi2 : i < p2.vals.length := by rw [HL2.out.1]; exact hlt
    have HSt := hide (eqL_step p1.vals p2.vals i hi1 hi2)
    obtain ⟨b1, o1, hA1, l1, cx⟩ := HI1.out.vals.at1 (i := i) (i64s_get (List.getElem?_eq_getElem hi1))
    obtain ⟨b2, o2, hA2, l2, cy⟩ := HI2.out.vals.at1 (i := i) (i64s_get (List.getElem?_eq_getElem hi2))
    obtain ⟨x, hx⟩ : ∃ x, p1.vals[i] = x := ⟨_, rfl⟩
    obtain ⟨y, hy⟩ : ∃ y, p2.vals[i] = y := ⟨_, rfl⟩
    rw [hx] at cx HSt
    rw [hy] at cy HSt
    have hI0 : (0 : Int) ≤ (i : Int) := by omega
    have hI1 : (i : Int) < (nv1 : Int) := by omega
    have x1 : u.cell? ⟨w.heap.size, 1, none⟩ = some (.slice (some ⟨b1, o1, none⟩) nv1 cv1) := by rw [← hA1]; exact X1.out
    have y1 : u.cell? ⟨w.heap.size + 1, 1, none⟩ = some (.slice (some ⟨b2, o2, none⟩) nv1 cv2) := by rw [← hA2]; exact Y1.out
    have lu0 : w.heap.size < u.heap.size := by omega
    have lu1 : w.heap.size + 1 < u.heap.size := by omega
    clear hx hy hi1 hi2 hA1 hA2
    by_cases hxy : x = y
    ·have HE : Hid (eqL p1.vals p2.vals = eqL (p1.vals.drop (i + 1)) (p2.vals.drop (i + 1))) := hide (by rw [heq.out, HSt.out, hxy, decide_eq_true rfl, Bool.true_and])
     subst hxy
     all_goals
      go_wp2
      refine wp_region_held_drew (S := Kept u) (by kernel_rfl) (fun p hp => hkr.out p hp) (fun hS0 => ?_)
      refine tk 0 59 (v := ?_) ?_ ?_; rotate_left; (focus (intro w hSw; go_simp; (try with_reducible rfl); done)); (try simp only [xd, xe, xf])
      refine tk 1 60 (v := ?_) ?_ ?_; rotate_left; (focus (intro w hSw; go_simp; (try with_reducible rfl); done)); (try simp only [xd, xe, xf])
      refine tk 2 61 (v := ?_) ?_ ?_; rotate_left; (focus (intro w hSw; go_simp; (try with_reducible rfl); done)); (try simp only [xd, xe, xf])
      refine tk 3 62 (v := ?_) ?_ ?_; rotate_left; (focus (intro w hSw; go_simp; (try with_reducible rfl); done)); (try simp only [xd, xe, xf])
      refine tk 4 63 (v := ?_) ?_ ?_; rotate_left; (focus (intro w hSw; go_simp; (try with_reducible rfl); done)); (try simp only [xd, xe, xf])
      refine tk 5 64 (v := ?_) ?_ ?_; rotate_left; (focus (intro w hSw; go_simp; (try with_reducible rfl); done)); (try simp only [xd, xe, xf])
      refine tk 6 65 (v := ?_) ?_ ?_; rotate_left; (focus (intro w hSw; go_simp; (try with_reducible rfl); done)); (try simp only [xd, xe, xf])
      refine tk 7 66 (v := ?_) ?_ ?_; rotate_left; (focus (intro w hSw; go_simp; (try with_reducible rfl); done)); (try simp only [xd, xe, xf])
      refine tk 8 67 (v := ?_) ?_ ?_; rotate_left; (focus (intro w hSw; go_simp; (try with_reducible rfl); done)); (try simp only [xd, xe, xf])
      refine tk 9 68 (v := ?_) ?_ ?_; rotate_left; (focus (intro w hSw; go_simp; (try with_reducible rfl); done)); (try simp only [xd, xe, xf])
      refine tk 10 69 (v := ?_) ?_ ?_; rotate_left; (focus (intro w hSw; go_simp; (try with_reducible rfl); done)); (try simp only [xd, xe, xf])
      refine wpAnyH_done (by kernel_rfl) ?_ _
      clear hS0
      go_wp2
      go_roundw
      case rel => exact ⟨i + 1, by omega, by go_num, HE, hide (fun p hp => hkr.out p hp), hide hbr.out.drew⟩
      case measure => simp [intOf]; omega
    ·have HE : Hid (sameV p1 p2 = false) := hide (by rw [sameV, show eqL p1.vals p2.vals = false by rw [heq.out, HSt.out, decide_eq_false hxy, Bool.false_and]]; simp)
     have hxy' : (x == y) = false := by simp only [beq_eq_false_iff_ne, ne_eq]; exact hxy
     have hxy2 : (x != y) = true := by simp only [bne_iff_ne, ne_eq]; exact hxy
     all_goals
      go_wp2
      refine wp_region_held_drew (S := Kept u) (by kernel_rfl) (fun p hp => hkr.out p hp) (fun hS0 => ?_)
      refine tk 0 59 (v := ?_) ?_ ?_; rotate_left; (focus (intro w hSw; go_simp; (try with_reducible rfl); done)); (try simp only [xd, xe, xf])
      refine tk 1 60 (v := ?_) ?_ ?_; rotate_left; (focus (intro w hSw; go_simp; (try with_reducible rfl); done)); (try simp only [xd, xe, xf])
      refine tk 2 61 (v := ?_) ?_ ?_; rotate_left; (focus (intro w hSw; go_simp; (try with_reducible rfl); done)); (try simp only [xd, xe, xf])
      refine tk 3 62 (v := ?_) ?_ ?_; rotate_left; (focus (intro w hSw; go_simp; (try with_reducible rfl); done)); (try simp only [xd, xe, xf])
      refine tk 4 63 (v := ?_) ?_ ?_; rotate_left; (focus (intro w hSw; go_simp; (try with_reducible rfl); done)); (try simp only [xd, xe, xf])
      refine tk 5 64 (v := ?_) ?_ ?_; rotate_left; (focus (intro w hSw; go_simp; (try with_reducible rfl); done)); (try simp only [xd, xe, xf])
      refine tk 6 65 (v := ?_) ?_ ?_; rotate_left; (focus (intro w hSw; go_simp; (try with_reducible rfl); done)); (try simp only [xd, xe, xf])
      refine tk 7 66 (v := ?_) ?_ ?_; rotate_left; (focus (intro w hSw; go_simp; (try with_reducible rfl); done)); (try simp only [xd, xe, xf])
      refine tk 8 67 (v := ?_) ?_ ?_; rotate_left; (focus (intro w hSw; go_simp; (try with_reducible rfl); done)); (try simp only [xd, xe, xf])
      refine tk 9 68 (v := ?_) ?_ ?_; rotate_left; (focus (intro w hSw; go_simp; (try with_reducible rfl); done)); (try simp only [xd, xe, xf])
      refine tk 10 69 (v := ?_) ?_ ?_; rotate_left; (focus (intro w hSw; go_simp; (try with_reducible rfl); done)); (try simp only [xd, xe, xf])
      refine wpAnyH_done (by kernel_rfl) ?_ _
      clear hS0
      have HBf := hide (HB.out.trans (hbr.out.drew.mono HB.out.size))
      go_wp2
      go_ret
      exact ⟨ret_b HE.out.symm, HBf.out⟩
   ·obtain rfl : i = nv1 := by omega
    have HQ0 : Hid (eqL p1.vals p2.vals = true) := hide (by rw [heq.out, List.drop_of_length_le (by rw [HL1.out.1]; exact Nat.le_refl _), List.drop_of_length_le (by rw [HL2.out.1]; exact Nat.le_refl _)]; exact eqL_nil)
    have KP := hkr
    have KU := hbr
    clear hkr hbr
    obtain ⟨w00, rfl⟩ : ∃ z : World, z = wr := ⟨_, rfl⟩
    go_wp2
    clear xr
    go_loopw [6] (fun vi wr => ∃ i : Nat, i ≤ nc1 ∧ vi = .int .i64 i ∧ Hid (eqL p1.chg p2.chg = eqL (p1.chg.drop i) (p2.chg.drop i)) ∧ Hid (Kept u wr) ∧ Hid (Below u.heap.size u wr)) (fun vi _ => nc1 - (intOf vi).toNat)
    case atStart => exact ⟨0, by omega, rfl, hide rfl, KP, KU⟩
    case round =>
     clear KP KU
     obtain ⟨i, hi, rfl, heq, hkr, hbr⟩ := hrel
     have xr : wr.cell? ⟨w.heap.size, 2, none⟩ = some (.slice Ac1 nc1 cc1) := (hkr.out ⟨w.heap.size, 2, none⟩ (by show w.heap.size < _; omega)).trans X2.out
     by_cases hlt : i < nc1
     ·have hi1 : i < p1.chg.length := by rw [HL1.out.2.1]; exact hlt
      have hi2 : i < p2.chg.length := by rw [HL2.out.2.1]; exact hlt
      have HSt := hide (eqL_step p1.chg p2.chg i hi1 hi2)
      obtain ⟨b1, o1, hA1, l1, cx⟩ := HI1.out.chg.at1 (i := i) (bools_get? (List.getElem?_eq_getElem hi1))
      obtain ⟨b2, o2, hA2, l2, cy⟩ := HI2.out.chg.at1 (i := i) (bools_get? (List.getElem?_eq_getElem hi2))
      obtain ⟨x, hx⟩ : ∃ x, p1.chg[i] = x := ⟨_, rfl⟩
      obtain ⟨y, hy⟩ : ∃ y, p2.chg[i] = y := ⟨_, rfl⟩
      rw [hx] at cx HSt
      rw [hy] at cy HSt
      have hI0 : (0 : Int) ≤ (i : Int) := by omega
      have hI1 : (i : Int) < (nc1 : Int) := by omega
      have x2 : u.cell? ⟨w.heap.size, 2, none⟩ = some (.slice (some ⟨b1, o1, none⟩) nc1 cc1) := by rw [← hA1]; exact X2.out
      have y2 : u.cell? ⟨w.heap.size + 1, 2, none⟩ = some (.slice (some ⟨b2, o2, none⟩) nc1 cc2) := by rw [← hA2]; exact Y2.out
      have lu0 : w.heap.size < u.heap.size := by omega
      have lu1 : w.heap.size + 1 < u.heap.size := by omega
      clear hx hy hi1 hi2 hA1 hA2
      by_cases hxy : x = y
      ·have HE : Hid (eqL p1.chg p2.chg = eqL (p1.chg.drop (i + 1)) (p2.chg.drop (i + 1))) := hide (by rw [heq.out, HSt.out, hxy, decide_eq_true rfl, Bool.true_and])
       subst hxy
       cases x
       all_goals
        go_wp2
        refine wp_region_held_drew (S := Kept u) (by kernel_rfl) (fun p hp => hkr.out p hp) (fun hS0 => ?_)
        refine tk 0 77 (v := ?_) ?_ ?_; rotate_left; (focus (intro w hSw; go_simp; (try with_reducible rfl); done)); (try simp only [xd, xe, xf])
        refine tk 1 78 (v := ?_) ?_ ?_; rotate_left; (focus (intro w hSw; go_simp; (try with_reducible rfl); done)); (try simp only [xd, xe, xf])
        refine tk 2 79 (v := ?_) ?_ ?_; rotate_left; (focus (intro w hSw; go_simp; (try with_reducible rfl); done)); (try simp only [xd, xe, xf])
        refine tk 3 80 (v := ?_) ?_ ?_; rotate_left; (focus (intro w hSw; go_simp; (try with_reducible rfl); done)); (try simp only [xd, xe, xf])
        refine tk 4 81 (v := ?_) ?_ ?_; rotate_left; (focus (intro w hSw; go_simp; (try with_reducible rfl); done)); (try simp only [xd, xe, xf])
        refine tk 5 82 (v := ?_) ?_ ?_; rotate_left; (focus (intro w hSw; go_simp; (try with_reducible rfl); done)); (try simp only [xd, xe, xf])
        refine tk 6 83 (v := ?_) ?_ ?_; rotate_left; (focus (intro w hSw; go_simp; (try with_reducible rfl); done)); (try simp only [xd, xe, xf])
        refine tk 7 84 (v := ?_) ?_ ?_; rotate_left; (focus (intro w hSw; go_simp; (try with_reducible rfl); done)); (try simp only [xd, xe, xf])
        refine tk 8 85 (v := ?_) ?_ ?_; rotate_left; (focus (intro w hSw; go_simp; (try with_reducible rfl); done)); (try simp only [xd, xe, xf])
        refine tk 9 86 (v := ?_) ?_ ?_; rotate_left; (focus (intro w hSw; go_simp; (try with_reducible rfl); done)); (try simp only [xd, xe, xf])
        refine tk 10 87 (v := ?_) ?_ ?_; rotate_left; (focus (intro w hSw; go_simp; (try with_reducible rfl); done)); (try simp only [xd, xe, xf])
        refine wpAnyH_done (by kernel_rfl) ?_ _
        clear hS0
        go_wp2
        go_roundw
        case rel => exact ⟨i + 1, by omega, by go_num, HE, hide (fun p hp => hkr.out p hp), hide hbr.out.drew⟩
        case measure => simp [intOf]; omega
      ·have HE : Hid (sameV p1 p2 = false) := hide (by rw [sameV, show eqL p1.chg p2.chg = false by rw [heq.out, HSt.out, decide_eq_false hxy, Bool.false_and]]; simp)
       cases x <;> cases y <;> (first | exact absurd rfl hxy | skip)
       all_goals
        go_wp2
        refine wp_region_held_drew (S := Kept u) (by kernel_rfl) (fun p hp => hkr.out p hp) (fun hS0 => ?_)
        refine tk 0 77 (v := ?_) ?_ ?_; rotate_left; (focus (intro w hSw; go_simp; (try with_reducible rfl); done)); (try simp only [xd, xe, xf])
        refine tk 1 78 (v := ?_) ?_ ?_; rotate_left; (focus (intro w hSw; go_simp; (try with_reducible rfl); done)); (try simp only [xd, xe, xf])
        refine tk 2 79 (v := ?_) ?_ ?_; rotate_left; (focus (intro w hSw; go_simp; (try with_reducible rfl); done)); (try simp only [xd, xe, xf])
        refine tk 3 80 (v := ?_) ?_ ?_; rotate_left; (focus (intro w hSw; go_simp; (try with_reducible rfl); done)); (try simp only [xd, xe, xf])
        refine tk 4 81 (v := ?_) ?_ ?_; rotate_left; (focus (intro w hSw; go_simp; (try with_reducible rfl); done)); (try simp only [xd, xe, xf])
        refine tk 5 82 (v := ?_) ?_ ?_; rotate_left; (focus (intro w hSw; go_simp; (try with_reducible rfl); done)); (try simp only [xd, xe, xf])
        refine tk 6 83 (v := ?_) ?_ ?_; rotate_left; (focus (intro w hSw; go_simp; (try with_reducible rfl); done)); (try simp only [xd, xe, xf])
        refine tk 7 84 (v := ?_) ?_ ?_; rotate_left; (focus (intro w hSw; go_simp; (try with_reducible rfl); done)); (try simp only [xd, xe, xf])
        refine tk 8 85 (v := ?_) ?_ ?_; rotate_left; (focus (intro w hSw; go_simp; (try with_reducible rfl); done)); (try simp only [xd, xe, xf])
        refine tk 9 86 (v := ?_) ?_ ?_; rotate_left; (focus (intro w hSw; go_simp; (try with_reducible rfl); done)); (try simp only [xd, xe, xf])
        refine tk 10 87 (v := ?_) ?_ ?_; rotate_left; (focus (intro w hSw; go_simp; (try with_reducible rfl); done)); (try simp only [xd, xe, xf])
        refine wpAnyH_done (by kernel_rfl) ?_ _
        clear hS0
        have HBf := hide (HB.out.trans (hbr.out.drew.mono HB.out.size))
        go_wp2
        go_ret
        exact ⟨ret_b HE.out.symm, HBf.out⟩
     ·obtain rfl : i = nc1 := by omega
      have HQ1 : Hid (eqL p1.chg p2.chg = true) := hide (by rw [heq.out, List.drop_of_length_le (by rw [HL1.out.2.1]; exact Nat.le_refl _), List.drop_of_length_le (by rw [HL2.out.2.1]; exact Nat.le_refl _)]; exact eqL_nil)
      have KP := hkr
      have KU := hbr
      clear hkr hbr
      have HF : Hid (sameV p1 p2 = true) := hide (by simp [sameV, H_st.out, H_sm.out, H_mo.out, HQ0.out, HQ1.out, HM.out])
      have HBf := hide (HB.out.trans (KU.out.mono HB.out.size))
      go_wp2
      go_ret
      exact ⟨ret_b HF.out.symm, HBf.out⟩
end Go.Proofs.YtpgbjabifhjogaaGreat

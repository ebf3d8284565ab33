/- Lemmas: Qsm, Sam, Eml, Egr. -/
import Derived.Test.YtpgbjabifhjogaaGreatProg
import Derived.Lib.Hide
import Derived.WalkSpells
import Derived.WalkMore
import Derived.IntWalk
import Derived.Test.YtpgbjabifhjogaaGreatSkWw22
set_option linter.unusedVariables false
set_option linter.unusedSimpArgs false
set_option maxRecDepth 100000
set_option maxHeartbeats 16000000
namespace Go.Proofs.YtpgbjabifhjogaaGreat
open Go.RowKit
structure SV where
 st:Int
 vals:List Int
 chg:List Bool
 inb:List Ml
 sm:Int
 mo:Int
deriving DecidableEq
structure VIn (w:World) (p:SV) (Av Ac Ai:Option Addr):Prop where
 vals:Rd w w.heap.size Av (i64s p.vals)
 chg:Rd w w.heap.size Ac (bools p.chg)
 inb:Rd w w.heap.size Ai (mlFlat p.inb)
theorem VIn.next {w w':World} {p:SV} {Av Ac Ai:Option Addr} (h:VIn w p Av Ac Ai) (hb:Below w.heap.size w w'):VIn w' p Av Ac Ai:=⟨h.vals.next hb,h.chg.next hb,h.inb.next hb⟩
def VLen (p:SV) (nv nc ni:Nat):Prop:=p.vals.length=nv∧p.chg.length=nc∧p.inb.length=ni
def sameV (p q:SV):Bool:=decide (p.st=q.st) && decide (p.sm=q.sm) && decide (p.mo=q.mo) && eqL p.vals q.vals && eqL p.chg q.chg && eqL (p.inb.map nm) (q.inb.map nm)
theorem qsame_any (w:World) (p1:SV) (Av1 Ac1 Ai1:Option Addr) (nv1 nc1 ni1 cv1 cc1 ci1:Nat) (hl1:VLen p1 nv1 nc1 ni1) (hi1:VIn w p1 Av1 Ac1 Ai1) (p2:SV) (Av2 Ac2 Ai2:Option Addr) (nv2 nc2 ni2 cv2 cc2 ci2:Nat) (hl2:VLen p2 nv2 nc2 ni2) (hi2:VIn w p2 Av2 Ac2 Ai2) (bv:nv1≤9223372036854775807) (bc:nc1≤9223372036854775807) (bi:ni1≤9223372036854775807) :
  Calls Tryz.prog 23 #[.agg #[.int .i64 p1.st,.slice Av1 nv1 cv1,.slice Ac1 nc1 cc1,.slice Ai1 ni1 ci1,.int .i64 p1.sm,.int .i64 p1.mo],.agg #[.int .i64 p2.st,.slice Av2 nv2 cv2,.slice Ac2 nc2 cc2,.slice Ai2 ni2 ci2,.int .i64 p2.sm,.int .i64 p2.mo]] w fun e w'=>e = .returned (.bool (sameV p1 p2))∧Below w.heap.size w w':=by
 obtain⟨u,hv⟩:∃v,(w.alloc (.cells #[.int .i64 p1.st,.slice Av1 nv1 cv1,.slice Ac1 nc1 cc1,.slice Ai1 ni1 ci1,.int .i64 p1.sm,.int .i64 p1.mo] 33)).alloc (.cells #[.int .i64 p2.st,.slice Av2 nv2 cv2,.slice Ac2 nc2 cc2,.slice Ai2 ni2 ci2,.int .i64 p2.sm,.int .i64 p2.mo] 33)=v:=⟨_,rfl⟩
 have hz:w.heap.size+2≤u.heap.size:=by rw[←hv];simp
 have hb:Below w.heap.size w u:=by rw[←hv];exact ((Below.refl _ _).alloc (Nat.le_refl _) _).alloc (by simp) _
 have q1:u.heap[w.heap.size]?=some (.cells #[.int .i64 p1.st,.slice Av1 nv1 cv1,.slice Ac1 nc1 cc1,.slice Ai1 ni1 ci1,.int .i64 p1.sm,.int .i64 p1.mo] 33):=by rw[←hv];exact (Below.heap_alloc _ _ _ (by simp)).trans (heap_alloc_last w _)
 have q2:u.heap[w.heap.size+1]?=some (.cells #[.int .i64 p2.st,.slice Av2 nv2 cv2,.slice Ac2 nc2 cc2,.slice Ai2 ni2 ci2,.int .i64 p2.sm,.int .i64 p2.mo] 33):=by
  rw[←hv]
  have:=heap_alloc_last (w.alloc (.cells #[.int .i64 p1.st,.slice Av1 nv1 cv1,.slice Ac1 nc1 cc1,.slice Ai1 ni1 ci1,.int .i64 p1.sm,.int .i64 p1.mo] 33)) (.cells #[.int .i64 p2.st,.slice Av2 nv2 cv2,.slice Ac2 nc2 cc2,.slice Ai2 ni2 ci2,.int .i64 p2.sm,.int .i64 p2.mo] 33)
  rw[World.size_alloc] at this
  exact this
 have HB:=hide hb
 have HVB:=hide (show Below w.heap.size w ((w.alloc (.cells #[.int .i64 p1.st,.slice Av1 nv1 cv1,.slice Ac1 nc1 cc1,.slice Ai1 ni1 ci1,.int .i64 p1.sm,.int .i64 p1.mo] 33)).alloc (.cells #[.int .i64 p2.st,.slice Av2 nv2 cv2,.slice Ac2 nc2 cc2,.slice Ai2 ni2 ci2,.int .i64 p2.sm,.int .i64 p2.mo] 33)) by rw[hv];exact hb)
 have HV:=hide hv
 have HL1:=hide hl1;have HL2:=hide hl2
 have HI1:=hide (hi1.next hb);have HI2:=hide (hi2.next hb)
 have X0:=hide (show u.cell? ⟨w.heap.size,0,none⟩=some (.int .i64 p1.st) from cell_of_row _ _ 0 _ _ _ q1)
 have X4:=hide (show u.cell? ⟨w.heap.size,4,none⟩=some (.int .i64 p1.sm) from cell_of_row _ _ 4 _ _ _ q1)
 have X5:=hide (show u.cell? ⟨w.heap.size,5,none⟩=some (.int .i64 p1.mo) from cell_of_row _ _ 5 _ _ _ q1)
 have Y0:=hide (show u.cell? ⟨w.heap.size+1,0,none⟩=some (.int .i64 p2.st) from cell_of_row _ _ 0 _ _ _ q2)
 have Y4:=hide (show u.cell? ⟨w.heap.size+1,4,none⟩=some (.int .i64 p2.sm) from cell_of_row _ _ 4 _ _ _ q2)
 have Y5:=hide (show u.cell? ⟨w.heap.size+1,5,none⟩=some (.int .i64 p2.mo) from cell_of_row _ _ 5 _ _ _ q2)
 have X1:=hide (show u.cell? ⟨w.heap.size,1,none⟩=some (.slice Av1 nv1 cv1) from cell_of_row _ _ 1 _ _ _ q1)
 have X2:=hide (show u.cell? ⟨w.heap.size,2,none⟩=some (.slice Ac1 nc1 cc1) from cell_of_row _ _ 2 _ _ _ q1)
 have X3:=hide (show u.cell? ⟨w.heap.size,3,none⟩=some (.slice Ai1 ni1 ci1) from cell_of_row _ _ 3 _ _ _ q1)
 have Y1:=hide (show u.cell? ⟨w.heap.size+1,1,none⟩=some (.slice Av2 nv2 cv2) from cell_of_row _ _ 1 _ _ _ q2)
 have Y2:=hide (show u.cell? ⟨w.heap.size+1,2,none⟩=some (.slice Ac2 nc2 cc2) from cell_of_row _ _ 2 _ _ _ q2)
 have Y3:=hide (show u.cell? ⟨w.heap.size+1,3,none⟩=some (.slice Ai2 ni2 ci2) from cell_of_row _ _ 3 _ _ _ q2)
 have KU0:=hide (Below.refl u.heap.size u)
 clear q1 q2 hb hv hl1 hl2 hi1 hi2
 by_cases h_st:p1.st=p2.st
 rotate_left
 ·have hs_st:(p1.st == p2.st)=false:=by simpa using h_st
  have hn_st:(p1.st != p2.st)=true:=by simpa using h_st
  have HF:Hid (sameV p1 p2=false):=hide (by simp[sameV,h_st])
  clear h_st
  have x0:=X0.out
  have x1:=X1.out
  have x2:=X2.out
  have x3:=X3.out
  have x4:=X4.out
  have x5:=X5.out
  have y0:=Y0.out
  have y1:=Y1.out
  have y2:=Y2.out
  have y3:=Y3.out
  have y4:=Y4.out
  have y5:=Y5.out
  go_enter Tryz.func23,Tryz.ntmps23
  go_wp2
  go_ret
  exact⟨ret_b HF.out.symm,HVB.out⟩
 have H_st:=hide h_st
 have hs_st:(p1.st == p2.st)=true:=by simpa using h_st
 have hn_st:(p1.st != p2.st)=false:=by simpa using h_st
 clear h_st
 by_cases h_sm:p1.sm=p2.sm
 rotate_left
 ·have hs_sm:(p1.sm == p2.sm)=false:=by simpa using h_sm
  have hn_sm:(p1.sm != p2.sm)=true:=by simpa using h_sm
  have HF:Hid (sameV p1 p2=false):=hide (by simp[sameV,h_sm])
  clear h_sm
  have x0:=X0.out
  have x1:=X1.out
  have x2:=X2.out
  have x3:=X3.out
  have x4:=X4.out
  have x5:=X5.out
  have y0:=Y0.out
  have y1:=Y1.out
  have y2:=Y2.out
  have y3:=Y3.out
  have y4:=Y4.out
  have y5:=Y5.out
  go_enter Tryz.func23,Tryz.ntmps23
  go_wp2
  go_ret
  exact⟨ret_b HF.out.symm,HVB.out⟩
 have H_sm:=hide h_sm
 have hs_sm:(p1.sm == p2.sm)=true:=by simpa using h_sm
 have hn_sm:(p1.sm != p2.sm)=false:=by simpa using h_sm
 clear h_sm
 by_cases h_mo:p1.mo=p2.mo
 rotate_left
 ·have hs_mo:(p1.mo == p2.mo)=false:=by simpa using h_mo
  have hn_mo:(p1.mo != p2.mo)=true:=by simpa using h_mo
  have HF:Hid (sameV p1 p2=false):=hide (by simp[sameV,h_mo])
  clear h_mo
  have x0:=X0.out
  have x1:=X1.out
  have x2:=X2.out
  have x3:=X3.out
  have x4:=X4.out
  have x5:=X5.out
  have y0:=Y0.out
  have y1:=Y1.out
  have y2:=Y2.out
  have y3:=Y3.out
  have y4:=Y4.out
  have y5:=Y5.out
  go_enter Tryz.func23,Tryz.ntmps23
  go_wp2
  go_ret
  exact⟨ret_b HF.out.symm,HVB.out⟩
 have H_mo:=hide h_mo
 have hs_mo:(p1.mo == p2.mo)=true:=by simpa using h_mo
 have hn_mo:(p1.mo != p2.mo)=false:=by simpa using h_mo
 clear h_mo
 have x0:=X0.out
 have x4:=X4.out
 have x5:=X5.out
 have y0:=Y0.out
 have y4:=Y4.out
 have y5:=Y5.out
 go_enter Tryz.func23,Tryz.ntmps23
 have x1:u.cell? ⟨w.heap.size,1,none⟩=some (.slice Av1 nv1 cv1):=(KU0.out.cell (p:=⟨w.heap.size,1,none⟩) (by show w.heap.size<_;omega)).trans X1.out
 have y1:u.cell? ⟨w.heap.size+1,1,none⟩=some (.slice Av2 nv2 cv2):=(KU0.out.cell (p:=⟨w.heap.size+1,1,none⟩) (by show w.heap.size+1<_;omega)).trans Y1.out
 go_wp2_with fail
 rw[HV.out]
 refine (equalL_any u Av1 Av2 p1.vals p2.vals nv1 nv2 cv1 cv2 HL1.out.1 HL2.out.1 (by omega) (HI1.out.next KU0.out).vals (HI2.out.next KU0.out).vals).mono ?_
 rintro e z1 ⟨rfl,hz⟩
 have KU1:=hide (KU0.out.trans (hz.mono KU0.out.size))
 have szz1:=KU1.out.size
 clear hz x1 y1
 clear x0 y0 x4 y4 x5 y5
 rcases hq0:eqL p1.vals p2.vals with _ | _
 ·have HF:Hid (sameV p1 p2=false):=hide (by simp[sameV,hq0])
  have HBf:=hide (HB.out.trans (KU1.out.mono HB.out.size))
  clear hq0
  go_wp2
  go_ret
  exact⟨ret_b HF.out.symm,HBf.out⟩
 have HQ0:=hide hq0
 clear hq0
 have x2:z1.cell? ⟨w.heap.size,2,none⟩=some (.slice Ac1 nc1 cc1):=(KU1.out.cell (p:=⟨w.heap.size,2,none⟩) (by show w.heap.size<_;omega)).trans X2.out
 have y2:z1.cell? ⟨w.heap.size+1,2,none⟩=some (.slice Ac2 nc2 cc2):=(KU1.out.cell (p:=⟨w.heap.size+1,2,none⟩) (by show w.heap.size+1<_;omega)).trans Y2.out
 go_wp2_with fail
 refine (equalB_any z1 Ac1 Ac2 p1.chg p2.chg nc1 nc2 cc1 cc2 HL1.out.2.1 HL2.out.2.1 (by omega) (HI1.out.next KU1.out).chg (HI2.out.next KU1.out).chg).mono ?_
 rintro e z2 ⟨rfl,hz⟩
 have KU2:=hide (KU1.out.trans (hz.mono KU1.out.size))
 have szz2:=KU2.out.size
 clear hz x2 y2
 rcases hq1:eqL p1.chg p2.chg with _ | _
 ·have HF:Hid (sameV p1 p2=false):=hide (by simp[sameV,hq1])
  have HBf:=hide (HB.out.trans (KU2.out.mono HB.out.size))
  clear hq1
  go_wp2
  go_ret
  exact⟨ret_b HF.out.symm,HBf.out⟩
 have HQ1:=hide hq1
 clear hq1
 have x3:z2.cell? ⟨w.heap.size,3,none⟩=some (.slice Ai1 ni1 ci1):=(KU2.out.cell (p:=⟨w.heap.size,3,none⟩) (by show w.heap.size<_;omega)).trans X3.out
 have y3:z2.cell? ⟨w.heap.size+1,3,none⟩=some (.slice Ai2 ni2 ci2):=(KU2.out.cell (p:=⟨w.heap.size+1,3,none⟩) (by show w.heap.size+1<_;omega)).trans Y3.out
 go_wp2_with fail
 refine (isame_any z2 Ai1 Ai2 p1.inb p2.inb ni1 ni2 ci1 ci2 HL1.out.2.2 HL2.out.2.2 (by omega) (HI1.out.next KU2.out).inb (HI2.out.next KU2.out).inb).mono ?_
 rintro e z3 ⟨rfl,hz⟩
 have KU3:=hide (KU2.out.trans (hz.mono KU2.out.size))
 have szz3:=KU3.out.size
 clear hz x3 y3
 rcases hq2:eqL (p1.inb.map nm) (p2.inb.map nm) with _ | _
 ·have HF:Hid (sameV p1 p2=false):=hide (by simp[sameV,hq2])
  have HBf:=hide (HB.out.trans (KU3.out.mono HB.out.size))
  clear hq2
  go_wp2
  go_ret
  exact⟨ret_b HF.out.symm,HBf.out⟩
 have HQ2:=hide hq2
 clear hq2
 have HF:Hid (sameV p1 p2=true):=hide (by simp[sameV,H_st.out,H_sm.out,H_mo.out,HQ0.out,HQ1.out,HQ2.out])
 have HBf:=hide (HB.out.trans (KU3.out.mono HB.out.size))
 go_wp2
 go_ret
 exact⟨ret_b HF.out.symm,HBf.out⟩
theorem qrsame_any (w:World) (p1:SV) (Av1 Ac1 Ai1:Option Addr) (nv1 nc1 ni1 cv1 cc1 ci1:Nat) (hl1:VLen p1 nv1 nc1 ni1) (hi1:VIn w p1 Av1 Ac1 Ai1) (p2:SV) (Av2 Ac2 Ai2:Option Addr) (nv2 nc2 ni2 cv2 cc2 ci2:Nat) (hl2:VLen p2 nv2 nc2 ni2) (hi2:VIn w p2 Av2 Ac2 Ai2) (bv:nv1≤9223372036854775807) (bc:nc1≤9223372036854775807) (bi:ni1≤9223372036854775807) :
  Calls Tryz.prog 14 #[.agg #[.int .i64 p1.st,.slice Av1 nv1 cv1,.slice Ac1 nc1 cc1,.slice Ai1 ni1 ci1,.int .i64 p1.sm,.int .i64 p1.mo],.agg #[.int .i64 p2.st,.slice Av2 nv2 cv2,.slice Ac2 nc2 cc2,.slice Ai2 ni2 ci2,.int .i64 p2.sm,.int .i64 p2.mo]] w fun e w'=>e = .returned (.bool (sameV p1 p2))∧Below w.heap.size w w':=by
 obtain⟨u,hv⟩:∃v,(w.alloc (.cells #[.int .i64 p1.st,.slice Av1 nv1 cv1,.slice Ac1 nc1 cc1,.slice Ai1 ni1 ci1,.int .i64 p1.sm,.int .i64 p1.mo] 33)).alloc (.cells #[.int .i64 p2.st,.slice Av2 nv2 cv2,.slice Ac2 nc2 cc2,.slice Ai2 ni2 ci2,.int .i64 p2.sm,.int .i64 p2.mo] 33)=v:=⟨_,rfl⟩
 have hz:w.heap.size+2≤u.heap.size:=by rw[←hv];simp
 have hb:Below w.heap.size w u:=by rw[←hv];exact ((Below.refl _ _).alloc (Nat.le_refl _) _).alloc (by simp) _
 have q1:u.heap[w.heap.size]?=some (.cells #[.int .i64 p1.st,.slice Av1 nv1 cv1,.slice Ac1 nc1 cc1,.slice Ai1 ni1 ci1,.int .i64 p1.sm,.int .i64 p1.mo] 33):=by rw[←hv];exact (Below.heap_alloc _ _ _ (by simp)).trans (heap_alloc_last w _)
 have q2:u.heap[w.heap.size+1]?=some (.cells #[.int .i64 p2.st,.slice Av2 nv2 cv2,.slice Ac2 nc2 cc2,.slice Ai2 ni2 ci2,.int .i64 p2.sm,.int .i64 p2.mo] 33):=by
  rw[←hv]
  have:=heap_alloc_last (w.alloc (.cells #[.int .i64 p1.st,.slice Av1 nv1 cv1,.slice Ac1 nc1 cc1,.slice Ai1 ni1 ci1,.int .i64 p1.sm,.int .i64 p1.mo] 33)) (.cells #[.int .i64 p2.st,.slice Av2 nv2 cv2,.slice Ac2 nc2 cc2,.slice Ai2 ni2 ci2,.int .i64 p2.sm,.int .i64 p2.mo] 33)
  rw[World.size_alloc] at this
  exact this
 have HB:=hide hb
 have HVB:=hide (show Below w.heap.size w ((w.alloc (.cells #[.int .i64 p1.st,.slice Av1 nv1 cv1,.slice Ac1 nc1 cc1,.slice Ai1 ni1 ci1,.int .i64 p1.sm,.int .i64 p1.mo] 33)).alloc (.cells #[.int .i64 p2.st,.slice Av2 nv2 cv2,.slice Ac2 nc2 cc2,.slice Ai2 ni2 ci2,.int .i64 p2.sm,.int .i64 p2.mo] 33)) by rw[hv];exact hb)
 have HV:=hide hv
 have HL1:=hide hl1;have HL2:=hide hl2
 have HI1:=hide (hi1.next hb);have HI2:=hide (hi2.next hb)
 have X0:=hide (show u.cell? ⟨w.heap.size,0,none⟩=some (.int .i64 p1.st) from cell_of_row _ _ 0 _ _ _ q1)
 have X4:=hide (show u.cell? ⟨w.heap.size,4,none⟩=some (.int .i64 p1.sm) from cell_of_row _ _ 4 _ _ _ q1)
 have X5:=hide (show u.cell? ⟨w.heap.size,5,none⟩=some (.int .i64 p1.mo) from cell_of_row _ _ 5 _ _ _ q1)
 have Y0:=hide (show u.cell? ⟨w.heap.size+1,0,none⟩=some (.int .i64 p2.st) from cell_of_row _ _ 0 _ _ _ q2)
 have Y4:=hide (show u.cell? ⟨w.heap.size+1,4,none⟩=some (.int .i64 p2.sm) from cell_of_row _ _ 4 _ _ _ q2)
 have Y5:=hide (show u.cell? ⟨w.heap.size+1,5,none⟩=some (.int .i64 p2.mo) from cell_of_row _ _ 5 _ _ _ q2)
 have X1:=hide (show u.cell? ⟨w.heap.size,1,none⟩=some (.slice Av1 nv1 cv1) from cell_of_row _ _ 1 _ _ _ q1)
 have X2:=hide (show u.cell? ⟨w.heap.size,2,none⟩=some (.slice Ac1 nc1 cc1) from cell_of_row _ _ 2 _ _ _ q1)
 have X3:=hide (show u.cell? ⟨w.heap.size,3,none⟩=some (.slice Ai1 ni1 ci1) from cell_of_row _ _ 3 _ _ _ q1)
 have Y1:=hide (show u.cell? ⟨w.heap.size+1,1,none⟩=some (.slice Av2 nv2 cv2) from cell_of_row _ _ 1 _ _ _ q2)
 have Y2:=hide (show u.cell? ⟨w.heap.size+1,2,none⟩=some (.slice Ac2 nc2 cc2) from cell_of_row _ _ 2 _ _ _ q2)
 have Y3:=hide (show u.cell? ⟨w.heap.size+1,3,none⟩=some (.slice Ai2 ni2 ci2) from cell_of_row _ _ 3 _ _ _ q2)
 have KU0:=hide (Below.refl u.heap.size u)
 clear q1 q2 hb hv hl1 hl2 hi1 hi2
 by_cases h_st:p1.st=p2.st
 rotate_left
 ·have hs_st:(p1.st == p2.st)=false:=by simpa using h_st
  have hn_st:(p1.st != p2.st)=true:=by simpa using h_st
  have HF:Hid (sameV p1 p2=false):=hide (by simp[sameV,h_st])
  clear h_st
  have x0:=X0.out
  have x1:=X1.out
  have x2:=X2.out
  have x3:=X3.out
  have x4:=X4.out
  have x5:=X5.out
  have y0:=Y0.out
  have y1:=Y1.out
  have y2:=Y2.out
  have y3:=Y3.out
  have y4:=Y4.out
  have y5:=Y5.out
  go_enter Tryz.func14,Tryz.ntmps14
  go_wp2
  go_ret
  exact⟨ret_b HF.out.symm,HVB.out⟩
 have H_st:=hide h_st
 have hs_st:(p1.st == p2.st)=true:=by simpa using h_st
 have hn_st:(p1.st != p2.st)=false:=by simpa using h_st
 clear h_st
 by_cases h_sm:p1.sm=p2.sm
 rotate_left
 ·have hs_sm:(p1.sm == p2.sm)=false:=by simpa using h_sm
  have hn_sm:(p1.sm != p2.sm)=true:=by simpa using h_sm
  have HF:Hid (sameV p1 p2=false):=hide (by simp[sameV,h_sm])
  clear h_sm
  have x0:=X0.out
  have x1:=X1.out
  have x2:=X2.out
  have x3:=X3.out
  have x4:=X4.out
  have x5:=X5.out
  have y0:=Y0.out
  have y1:=Y1.out
  have y2:=Y2.out
  have y3:=Y3.out
  have y4:=Y4.out
  have y5:=Y5.out
  go_enter Tryz.func14,Tryz.ntmps14
  go_wp2
  go_ret
  exact⟨ret_b HF.out.symm,HVB.out⟩
 have H_sm:=hide h_sm
 have hs_sm:(p1.sm == p2.sm)=true:=by simpa using h_sm
 have hn_sm:(p1.sm != p2.sm)=false:=by simpa using h_sm
 clear h_sm
 by_cases h_mo:p1.mo=p2.mo
 rotate_left
 ·have hs_mo:(p1.mo == p2.mo)=false:=by simpa using h_mo
  have hn_mo:(p1.mo != p2.mo)=true:=by simpa using h_mo
  have HF:Hid (sameV p1 p2=false):=hide (by simp[sameV,h_mo])
  clear h_mo
  have x0:=X0.out
  have x1:=X1.out
  have x2:=X2.out
  have x3:=X3.out
  have x4:=X4.out
  have x5:=X5.out
  have y0:=Y0.out
  have y1:=Y1.out
  have y2:=Y2.out
  have y3:=Y3.out
  have y4:=Y4.out
  have y5:=Y5.out
  go_enter Tryz.func14,Tryz.ntmps14
  go_wp2
  go_ret
  exact⟨ret_b HF.out.symm,HVB.out⟩
 have H_mo:=hide h_mo
 have hs_mo:(p1.mo == p2.mo)=true:=by simpa using h_mo
 have hn_mo:(p1.mo != p2.mo)=false:=by simpa using h_mo
 clear h_mo
 by_cases h1:nv1=nv2
 rotate_left
 ·have hz1:((nv1:Int) == (nv2:Int))=false:=by simp;omega
  have hy1:((nv1:Int) != (nv2:Int))=true:=by simp;omega
  have HF:Hid (sameV p1 p2=false):=hide (by have e:eqL p1.vals p2.vals=false:=eqL_len (by rw[HL1.out.1,HL2.out.1];exact h1);simp[sameV,e])
  have x0:=X0.out
  have x1:=X1.out
  have x2:=X2.out
  have x3:=X3.out
  have x4:=X4.out
  have x5:=X5.out
  have y0:=Y0.out
  have y1:=Y1.out
  have y2:=Y2.out
  have y3:=Y3.out
  have y4:=Y4.out
  have y5:=Y5.out
  go_enter Tryz.func14,Tryz.ntmps14
  go_wp2
  go_ret
  exact⟨ret_b HF.out.symm,HVB.out⟩
 subst h1
 by_cases h2:nc1=nc2
 rotate_left
 ·have hz2:((nc1:Int) == (nc2:Int))=false:=by simp;omega
  have hy2:((nc1:Int) != (nc2:Int))=true:=by simp;omega
  have HF:Hid (sameV p1 p2=false):=hide (by have e:eqL p1.chg p2.chg=false:=eqL_len (by rw[HL1.out.2.1,HL2.out.2.1];exact h2);simp[sameV,e])
  have x0:=X0.out
  have x1:=X1.out
  have x2:=X2.out
  have x3:=X3.out
  have x4:=X4.out
  have x5:=X5.out
  have y0:=Y0.out
  have y1:=Y1.out
  have y2:=Y2.out
  have y3:=Y3.out
  have y4:=Y4.out
  have y5:=Y5.out
  go_enter Tryz.func14,Tryz.ntmps14
  go_wp2
  go_ret
  exact⟨ret_b HF.out.symm,HVB.out⟩
 subst h2
 have x0:=X0.out
 have x1:=X1.out
 have x2:=X2.out
 have x3:=X3.out
 have x4:=X4.out
 have x5:=X5.out
 have y0:=Y0.out
 have y1:=Y1.out
 have y2:=Y2.out
 have y3:=Y3.out
 have y4:=Y4.out
 have y5:=Y5.out
 go_enter Tryz.func14,Tryz.ntmps14
 go_wp2_with fail
 rw[HV.out]
 refine (rmsame_any u Ai1 Ai2 p1.inb p2.inb ni1 ni2 ci1 ci2 HL1.out.2.2 HL2.out.2.2 bi HI1.out.inb HI2.out.inb).mono ?_
 rintro e z ⟨rfl,hz⟩
 have KU:=hide hz
 have KP:Hid (Kept u z):=hide (Kept.of_below hz)
 clear KU0 hz x0 y0 x1 y1 x2 y2 x3 y3 x4 y4 x5 y5
 rcases hq:eqL (p1.inb.map nm) (p2.inb.map nm) with _ | _
 ·have HF:Hid (sameV p1 p2=false):=hide (by simp[sameV,hq])
  have HBf:=hide (HB.out.trans (KU.out.mono HB.out.size))
  clear hq
  go_wp2
  go_ret
  exact⟨ret_b HF.out.symm,HBf.out⟩
 have HM:=hide hq
 clear hq
 go_wp2
 go_loopw [5] (fun vi wr=>∃i:Nat,i≤nv1∧vi = .int .i64 i∧Hid (eqL p1.vals p2.vals=eqL (p1.vals.drop i) (p2.vals.drop i))∧Hid (Kept u wr)∧Hid (Below u.heap.size u wr)) (fun vi _=>nv1-(intOf vi).toNat)
 case atStart=>exact⟨0,by omega,rfl,hide rfl,KP,KU⟩
 case round=>
  clear KP KU
  obtain⟨i,hi,rfl,heq,hkr,hbr⟩:=hrel
  have xr:wr.cell? ⟨w.heap.size,1,none⟩=some (.slice Av1 nv1 cv1):=(hkr.out ⟨w.heap.size,1,none⟩ (by show w.heap.size<_;omega)).trans X1.out
  by_cases hlt:i<nv1
  ·have hi1:i<p1.vals.length:=by rw[HL1.out.1];exact hlt
   have hi2:i<p2.vals.length:=by rw[HL2.out.1];exact hlt
   have HSt:=hide (eqL_step p1.vals p2.vals i hi1 hi2)
   obtain⟨b1,o1,hA1,l1,cx⟩:=HI1.out.vals.at1 (i:=i) (i64s_get (List.getElem?_eq_getElem hi1))
   obtain⟨b2,o2,hA2,l2,cy⟩:=HI2.out.vals.at1 (i:=i) (i64s_get (List.getElem?_eq_getElem hi2))
   obtain⟨x,hx⟩:∃x,p1.vals[i]=x:=⟨_,rfl⟩
   obtain⟨y,hy⟩:∃y,p2.vals[i]=y:=⟨_,rfl⟩
   rw[hx] at cx HSt
   rw[hy] at cy HSt
   have hI0:(0:Int)≤(i:Int):=by omega
   have hI1:(i:Int)<(nv1:Int):=by omega
   have x1:u.cell? ⟨w.heap.size,1,none⟩=some (.slice (some ⟨b1,o1,none⟩) nv1 cv1):=by rw[←hA1];exact X1.out
   have y1:u.cell? ⟨w.heap.size+1,1,none⟩=some (.slice (some ⟨b2,o2,none⟩) nv1 cv2):=by rw[←hA2];exact Y1.out
   have lu0:w.heap.size<u.heap.size:=by omega
   have lu1:w.heap.size+1<u.heap.size:=by omega
   clear hx hy hi1 hi2 hA1 hA2
   by_cases hxy:x=y
   ·have HE:Hid (eqL p1.vals p2.vals=eqL (p1.vals.drop (i+1)) (p2.vals.drop (i+1))):=hide (by rw[heq.out,HSt.out,hxy,decide_eq_true rfl,Bool.true_and])
    subst hxy
    all_goals
     go_wp2
     refine wp_region_held_drew (S:=Kept u) (by kernel_rfl) (fun p hp=>hkr.out p hp) (fun hS0=>?_)
     refine tka 0 59 ?_
     refine tka 1 60 ?_
     refine tka 2 61 ?_
     refine tka 3 62 ?_
     refine tka 4 63 ?_
     refine tka 5 64 ?_
     refine tka 6 65 ?_
     refine tka 7 66 ?_
     refine tka 8 67 ?_
     refine tka 9 68 ?_
     refine tka 10 69 ?_
     refine wpAnyH_done (by kernel_rfl) ?_ _
     clear hS0
     go_wp2
     go_roundw
     case rel=>exact⟨i+1,by omega,by go_num,HE,hide (fun p hp=>hkr.out p hp),hide hbr.out.drew⟩
     case measure=>simp[intOf];omega
   have HE:Hid (sameV p1 p2=false):=hide (by rw[sameV,show eqL p1.vals p2.vals=false by rw[heq.out,HSt.out,decide_eq_false hxy,Bool.false_and]];simp)
   have hxy':(x == y)=false:=by simp only[beq_eq_false_iff_ne,ne_eq];exact hxy
   have hxy2:(x != y)=true:=by simp only[bne_iff_ne,ne_eq];exact hxy
   all_goals
    go_wp2
    refine wp_region_held_drew (S:=Kept u) (by kernel_rfl) (fun p hp=>hkr.out p hp) (fun hS0=>?_)
    refine tka 0 59 ?_
    refine tka 1 60 ?_
    refine tka 2 61 ?_
    refine tka 3 62 ?_
    refine tka 4 63 ?_
    refine tka 5 64 ?_
    refine tka 6 65 ?_
    refine tka 7 66 ?_
    refine tka 8 67 ?_
    refine tka 9 68 ?_
    refine tka 10 69 ?_
    refine wpAnyH_done (by kernel_rfl) ?_ _
    clear hS0
    have HBf:=hide (HB.out.trans (hbr.out.drew.mono HB.out.size))
    go_wp2
    go_ret
    exact⟨ret_b HE.out.symm,HBf.out⟩
  obtain rfl:i=nv1:=by omega
  have HQ0:Hid (eqL p1.vals p2.vals=true):=hide (by rw[heq.out,List.drop_of_length_le (by rw[HL1.out.1];exact Nat.le_refl _),List.drop_of_length_le (by rw[HL2.out.1];exact Nat.le_refl _)];exact eqL_nil)
  have KP:=hkr
  have KU:=hbr
  clear hkr hbr
  obtain⟨w00,rfl⟩:∃z:World,z=wr:=⟨_,rfl⟩
  go_wp2
  clear xr
  go_loopw [6] (fun vi wr=>∃i:Nat,i≤nc1∧vi = .int .i64 i∧Hid (eqL p1.chg p2.chg=eqL (p1.chg.drop i) (p2.chg.drop i))∧Hid (Kept u wr)∧Hid (Below u.heap.size u wr)) (fun vi _=>nc1-(intOf vi).toNat)
  case atStart=>exact⟨0,by omega,rfl,hide rfl,KP,KU⟩
  case round=>
   clear KP KU
   obtain⟨i,hi,rfl,heq,hkr,hbr⟩:=hrel
   have xr:wr.cell? ⟨w.heap.size,2,none⟩=some (.slice Ac1 nc1 cc1):=(hkr.out ⟨w.heap.size,2,none⟩ (by show w.heap.size<_;omega)).trans X2.out
   by_cases hlt:i<nc1
   ·have hi1:i<p1.chg.length:=by rw[HL1.out.2.1];exact hlt
    have hi2:i<p2.chg.length:=by rw[HL2.out.2.1];exact hlt
    have HSt:=hide (eqL_step p1.chg p2.chg i hi1 hi2)
    obtain⟨b1,o1,hA1,l1,cx⟩:=HI1.out.chg.at1 (i:=i) (bools_get? (List.getElem?_eq_getElem hi1))
    obtain⟨b2,o2,hA2,l2,cy⟩:=HI2.out.chg.at1 (i:=i) (bools_get? (List.getElem?_eq_getElem hi2))
    obtain⟨x,hx⟩:∃x,p1.chg[i]=x:=⟨_,rfl⟩
    obtain⟨y,hy⟩:∃y,p2.chg[i]=y:=⟨_,rfl⟩
    rw[hx] at cx HSt
    rw[hy] at cy HSt
    have hI0:(0:Int)≤(i:Int):=by omega
    have hI1:(i:Int)<(nc1:Int):=by omega
    have x2:u.cell? ⟨w.heap.size,2,none⟩=some (.slice (some ⟨b1,o1,none⟩) nc1 cc1):=by rw[←hA1];exact X2.out
    have y2:u.cell? ⟨w.heap.size+1,2,none⟩=some (.slice (some ⟨b2,o2,none⟩) nc1 cc2):=by rw[←hA2];exact Y2.out
    have lu0:w.heap.size<u.heap.size:=by omega
    have lu1:w.heap.size+1<u.heap.size:=by omega
    clear hx hy hi1 hi2 hA1 hA2
    by_cases hxy:x=y
    ·have HE:Hid (eqL p1.chg p2.chg=eqL (p1.chg.drop (i+1)) (p2.chg.drop (i+1))):=hide (by rw[heq.out,HSt.out,hxy,decide_eq_true rfl,Bool.true_and])
     subst hxy
     cases x
     all_goals
      go_wp2
      refine wp_region_held_drew (S:=Kept u) (by kernel_rfl) (fun p hp=>hkr.out p hp) (fun hS0=>?_)
      refine tka 0 77 ?_
      refine tka 1 78 ?_
      refine tka 2 79 ?_
      refine tka 3 80 ?_
      refine tka 4 81 ?_
      refine tka 5 82 ?_
      refine tka 6 83 ?_
      refine tka 7 84 ?_
      refine tka 8 85 ?_
      refine tka 9 86 ?_
      refine tka 10 87 ?_
      refine wpAnyH_done (by kernel_rfl) ?_ _
      clear hS0
      go_wp2
      go_roundw
      case rel=>exact⟨i+1,by omega,by go_num,HE,hide (fun p hp=>hkr.out p hp),hide hbr.out.drew⟩
      case measure=>simp[intOf];omega
    have HE:Hid (sameV p1 p2=false):=hide (by rw[sameV,show eqL p1.chg p2.chg=false by rw[heq.out,HSt.out,decide_eq_false hxy,Bool.false_and]];simp)
    cases x <;> cases y <;> (first | exact absurd rfl hxy | skip)
    all_goals
     go_wp2
     refine wp_region_held_drew (S:=Kept u) (by kernel_rfl) (fun p hp=>hkr.out p hp) (fun hS0=>?_)
     refine tka 0 77 ?_
     refine tka 1 78 ?_
     refine tka 2 79 ?_
     refine tka 3 80 ?_
     refine tka 4 81 ?_
     refine tka 5 82 ?_
     refine tka 6 83 ?_
     refine tka 7 84 ?_
     refine tka 8 85 ?_
     refine tka 9 86 ?_
     refine tka 10 87 ?_
     refine wpAnyH_done (by kernel_rfl) ?_ _
     clear hS0
     have HBf:=hide (HB.out.trans (hbr.out.drew.mono HB.out.size))
     go_wp2
     go_ret
     exact⟨ret_b HE.out.symm,HBf.out⟩
   obtain rfl:i=nc1:=by omega
   have HQ1:Hid (eqL p1.chg p2.chg=true):=hide (by rw[heq.out,List.drop_of_length_le (by rw[HL1.out.2.1];exact Nat.le_refl _),List.drop_of_length_le (by rw[HL2.out.2.1];exact Nat.le_refl _)];exact eqL_nil)
   have KP:=hkr
   have KU:=hbr
   clear hkr hbr
   have HF:Hid (sameV p1 p2=true):=hide (by simp[sameV,H_st.out,H_sm.out,H_mo.out,HQ0.out,HQ1.out,HM.out])
   have HBf:=hide (HB.out.trans (KU.out.mono HB.out.size))
   go_wp2
   go_ret
   exact⟨ret_b HF.out.symm,HBf.out⟩
theorem same64_any (w:World) (A B:Option Addr) (xs ys:List Int) (n m c d:Nat) (hx:xs.length=n) (hy:ys.length=m) (hn:n≤9223372036854775807) (rx:Rd w w.heap.size A (xs.map (Value.int .i64))) (ry:Rd w w.heap.size B (ys.map (Value.int .i64))) :
  Calls Tryz.prog 27 #[.slice A n c,.slice B m d] w fun e w'=>e = .returned (.bool (eqL xs ys))∧Below w.heap.size w w':=by
 have HX:=hide hx
 have HY:=hide hy
 have RX:=hide rx
 have RY:=hide ry
 clear hx hy rx ry
 by_cases hnm:n=m
 ·obtain rfl:=hnm
  go_enter Tryz.func27,Tryz.ntmps27
  go_wp2
  go_loopw [5] (fun vi wr=>∃i:Nat,i≤n∧vi = .int .i64 i∧Hid (eqL xs ys=eqL (xs.drop i) (ys.drop i))∧Hid (Kept w wr)∧Hid (Below w.heap.size w wr)) (fun vi _=>n-(intOf vi).toNat)
  case atStart=>exact⟨0,by omega,rfl,hide rfl,hide (Kept.refl w),hide (Below.refl _ _)⟩
  case round=>
   obtain⟨i,hi,rfl,heq,hkr,hbr⟩:=hrel
   by_cases hlt:i<n
   ·have hi1:i<xs.length:=by rw[HX.out];exact hlt
    have hi2:i<ys.length:=by rw[HY.out];exact hlt
    have HS:=hide (eqL_step xs ys i hi1 hi2)
    obtain⟨b1,o1,rfl,l1,_⟩:=RX.out.at_ (k:=i) (by rw[List.length_map];exact hi1)
    obtain⟨b2,o2,rfl,l2,_⟩:=RY.out.at_ (k:=i) (by rw[List.length_map];exact hi2)
    have cx:w.cell? ⟨b1,o1+i,none⟩=some (.int .i64 xs[i]):=RX.out.cell (by rw[List.getElem?_map,List.getElem?_eq_getElem hi1];rfl)
    have cy:w.cell? ⟨b2,o2+i,none⟩=some (.int .i64 ys[i]):=RY.out.cell (by rw[List.getElem?_map,List.getElem?_eq_getElem hi2];rfl)
    obtain⟨x,hx⟩:∃x,xs[i]=x:=⟨_,rfl⟩
    obtain⟨y,hy⟩:∃y,ys[i]=y:=⟨_,rfl⟩
    rw[hx] at cx HS
    rw[hy] at cy HS
    have hI0:(0:Int)≤(i:Int):=by omega
    have hI1:(i:Int)<(n:Int):=by omega
    clear hx hy hi1 hi2
    by_cases hxy:x=y
    ·have HE:Hid (eqL xs ys=eqL (xs.drop (i+1)) (ys.drop (i+1))):=hide (by rw[heq.out,HS.out,hxy,decide_eq_true rfl,Bool.true_and])
     subst hxy
     go_wp2
     refine wp_region_held_drew (S:=Kept w) (by kernel_rfl) (fun p hp=>hkr.out p hp) (fun hS0=>?_)
     refine tka 0 17 ?_
     refine tka 1 18 ?_
     refine tka 2 19 ?_
     refine tka 3 20 ?_
     refine tka 4 21 ?_
     refine tka 5 22 ?_
     refine tka 6 23 ?_
     refine tka 7 24 ?_
     refine tka 8 25 ?_
     refine wpAnyH_done (by kernel_rfl) ?_ _
     clear hS0
     go_wp2
     go_roundw
     case rel=>exact⟨i+1,by omega,by go_num,HE,hide (fun p hp=>hkr.out p hp),hide hbr.out.drew⟩
     case measure=>simp[intOf];omega
    have HE:Hid (eqL xs ys=false):=hide (by rw[heq.out,HS.out,decide_eq_false hxy,Bool.false_and])
    go_wp2
    refine wp_region_held_drew (S:=Kept w) (by kernel_rfl) (fun p hp=>hkr.out p hp) (fun hS0=>?_)
    refine tka 0 17 ?_
    refine tka 1 18 ?_
    refine tka 2 19 ?_
    refine tka 3 20 ?_
    refine tka 4 21 ?_
    refine tka 5 22 ?_
    refine tka 6 23 ?_
    refine tka 7 24 ?_
    refine tka 8 25 ?_
    refine wpAnyH_done (by kernel_rfl) ?_ _
    clear hS0
    go_wp2
    go_ret
    exact⟨ret_b (by rw[HE.out]),hbr.out.drew⟩
   obtain rfl:i=n:=by omega
   have HE:Hid (eqL xs ys=true):=hide (by rw[heq.out,List.drop_of_length_le (by have:=HX.out;omega),List.drop_of_length_le (by have:=HY.out;omega)];exact eqL_nil)
   go_wp2
   go_ret
   exact⟨ret_b (by rw[HE.out]),hbr.out⟩
 have hne:((n:Int) == (m:Int))=false:=by simp;omega
 have hne2:((n:Int) != (m:Int))=true:=by simp;omega
 have HE:Hid (eqL xs ys=false):=hide (eqL_len (by rw[HX.out,HY.out];exact hnm))
 go_enter Tryz.func27,Tryz.ntmps27
 go_wp2
 go_ret
 exact⟨ret_b (by rw[HE.out]),Below.refl _ _⟩
def millE:List Ed:=[(0,1,4),(0,2,1),(1,3,5),(2,1,2),(4,4,7)]
theorem mill_any (w:World):Calls Tryz.prog 29 #[] w (GraphPost w 6 millE):=by
 go_enter Tryz.func29,Tryz.ntmps29
 go_wp2
 refine bodyPost_ret (v:=.agg #[.int .i64 6,.slice (some ⟨w.heap.size+1,0,none⟩) 5 5]) (by simp[results,Tryz.results29,go_sem]) rfl ?_
 refine⟨some ⟨w.heap.size+1,0,none⟩,5,rfl,?_,by decide,by decide,((Below.refl _ _).alloc (Nat.le_refl _) _).alloc (by simp) _⟩
 refine Eds.of_rd ?_ (wt_of (by decide))
 have:=Rd.new (w.alloc (.cells #[.int .i64 6,.slice (some ⟨w.heap.size+1,0,none⟩) 5 5] 24)) (edFlat millE).toArray 58 (0,0)
 rw[World.size_alloc] at this
 exact this.more (by simp)
def ringE (n:Nat):List Ed:=(List.range n).map fun (i:Nat)=>((i:Int),((i:Int)+1) % (n:Int),(i:Int)+1)
theorem ring_snoc (n k:Nat) (h:k<n):edFlat ((ringE n).take k) ++ [.int .i64 (k:Int),.int .i64 (((k:Int)+1) % (n:Int)),.int .i64 ((k:Int)+1)]=edFlat ((ringE n).take (k+1)):=by
 have hk:(ringE n)[k]?=some ((k:Int),((k:Int)+1) % (n:Int),(k:Int)+1):=by
  unfold ringE
  rw[List.getElem?_map,List.getElem?_range h];rfl
 rw[List.take_add_one,hk,←edFlat_app]
 rfl
theorem ring_len (n:Nat):(ringE n).length=n:=by simp[ringE]
theorem ring_wt (n:Nat) (h:n≤8192):wt (ringE n):=fun e he=>by
 unfold ringE at he
 obtain⟨i,hi,rfl⟩:=List.mem_map.1 he
 have:=List.mem_range.1 hi
 dsimp only
 omega
theorem ring_any (w:World) (n:Nat) (hn1:1≤n) (hn2:n≤8192):Calls Tryz.prog 30 #[.int .i64 (n:Int)] w (GraphPost w (n:Int) (ringE n)):=by
 obtain⟨i0,hi0,hz0,hz1,hz2⟩:=info_parts (show (Tryz.prog.info? 58).map (fun i=>(i.zero,i.size,i.bytes))=some (some (.agg #[.int .i64 0,.int .i64 0,.int .i64 0]),3,24) by kernel_rfl)
 go_enter Tryz.func30,Tryz.ntmps30
 go_wp2
 obtain⟨v,hv⟩:∃v,(w.alloc (.cells #[.int .i64 0,.slice none 0 0] 24)).alloc (.cells #[.int .i64 (n:Int),.slice none 0 0] 24)=v:=⟨_,rfl⟩
 have hz:v.heap.size=w.heap.size+2:=by rw[←hv];simp
 have hb:Below w.heap.size w v:=by rw[←hv];exact ((Below.refl _ _).alloc (Nat.le_refl _) _).alloc (by simp) _
 have cR:Hid (v.heap[w.heap.size]?=some (.cells #[.int .i64 0,.slice none 0 0] 24)):=hide (by rw[←hv];exact (Below.heap_alloc _ _ _ (by simp)).trans (heap_alloc_last w _))
 have cB:Hid (v.heap[w.heap.size+1]?=some (.cells #[.int .i64 (n:Int),.slice none 0 0] 24)):=hide (by
  rw[←hv]
  have:=heap_alloc_last (w.alloc (.cells #[.int .i64 0,.slice none 0 0] 24)) (.cells #[.int .i64 (n:Int),.slice none 0 0] 24)
  rw[World.size_alloc] at this
  exact this)
 rw[hv]
 have HB:=hide hb
 have HZ:=hide hz
 clear hv hb hz
 go_loopw [4] (fun v4 wr=>∃(k:Nat) (A:Option Addr) (c:Nat),k≤n∧v4 = .int .i64 k∧Hid (wr.heap[w.heap.size]?=some (.cells #[.int .i64 0,.slice none 0 0] 24))∧Hid (wr.heap[w.heap.size+1]?=some (.cells #[.int .i64 (n:Int),.slice A k c] 24))∧Hid (wr.ownsRow v.heap.size 58 3 (.slice A k c) k (edFlat ((ringE n).take k)))∧Hid (Below w.heap.size w wr)∧v.heap.size≤wr.heap.size) (fun v4 _=>n-(intOf v4).toNat)
 case atStart=>exact⟨0,none,0,by omega,rfl,cR,cB,hide (World.ownsRow_nil _ _ _ _),HB,Nat.le_refl _⟩
 case round=>
  clear cR cB
  obtain⟨k,A,c,hk,rfl,cR,cB,hown,hbw,hsz⟩:=hrel
  have hz9:=HZ.out
  have g1:wr.cell? ⟨w.heap.size+1,1,none⟩=some (.slice A k c):=cell_of_row _ _ 1 _ _ _ cB.out
  have hl1:w.heap.size+1<wr.heap.size:=by omega
  by_cases hlt:k<n
  ·have hsn:=hide (ring_snoc n k hlt)
   have e1:IntKind.i64.wrap ((k:Int)+1)=(k:Int)+1:=IntWalk.i64_in _ (by omega)
   have e2:((k:Int)+1).tmod (n:Int)=((k:Int)+1) % (n:Int):=Int.tmod_eq_emod_of_nonneg (by omega)
   have e4:¬(n:Int)=0:=by omega
   have e5:¬n=0:=by omega
   have hI1:(k:Int)<(n:Int):=by omega
   have hm0:0≤((k:Int)+1) % (n:Int):=Int.emod_nonneg _ e4
   have hm1:((k:Int)+1) % (n:Int)<(n:Int):=Int.emod_lt_of_pos _ (by omega)
   obtain⟨m,hm⟩:∃m,((k:Int)+1) % (n:Int)=m:=⟨_,rfl⟩
   rw[hm] at e2 hm0 hm1 hsn
   have e3:IntKind.i64.wrap m=m:=IntWalk.i64_in _ (by omega)
   have HM:=hide hm
   clear hm
   go_wp2
   refine wpL_region (S:=Kept wr) [11,13] (by kernel_rfl) (Kept.drew wr) (fun hS0=>?_)
   refine twa 0 12 ?_
   refine tla 1 13 ?_
   refine twa 2 14 ?_
   refine twa 3 15 ?_
   refine twa 4 16 ?_
   refine twa 5 17 ?_
   refine twa 6 18 ?_
   refine twa 7 19 ?_
   refine twa 8 20 ?_
   refine twa 9 21 ?_
   refine cl 10 22 fun K hK=>?_
   go_simp
   have hS1:Kept wr (wr.drew.alloc (.cells #[.int .i64 (k:Int),.int .i64 m,.int .i64 ((k:Int)+1)] 58)):=fun p hp=>(World.cell?_alloc_lt _ _ _ hp)
   refine hK.out _ _ hS1 (fun hSn=>?_)
   clear hK K
   try simp only[zqd,zqe,zqf]
   refine xl 11 fun K hK=>?_
   refine op_app (.tmp 13) (.tmp 22) 22 rfl v.heap.size 58 i0 (.agg #[.int .i64 0,.int .i64 0,.int .i64 0]) 3 24 Tryz.underlying22 hi0 hz0 hz1 hz2 rfl (by decide) (.slice A k c) k _ rfl (hown.out.drew.alloc _) (wr.heap.size+1) (some ⟨wr.heap.size,0,none⟩) 1 1 [.int .i64 (k:Int),.int .i64 m,.int .i64 ((k:Int)+1)] rfl rfl (Rd.new _ _ _ _) (by simp[Value.oneCell']) (by unfold maxLen;omega) (by omega) (by simp;omega) ?_
   intro A' c' w3 hown3 hg3 hat3
   rw[hsn.out] at hown3
   have cB3:w3.heap[w.heap.size+1]?=some (.cells #[.int .i64 (n:Int),.slice A k c] 24):=(hg3.block _ (by simp;omega) (fun e=>by have:=(hown.out.lt _ e.symm).1;omega)).trans ((Below.heap_alloc _ _ _ (by show _<wr.heap.size;omega)).trans cB.out)
   have cR3:Hid (w3.heap[w.heap.size]?=some (.cells #[.int .i64 0,.slice none 0 0] 24)):=hide ((hg3.block _ (by simp;omega) (fun e=>by have:=(hown.out.lt _ e.symm).1;omega)).trans ((Below.heap_alloc _ _ _ (by show _<wr.heap.size;omega)).trans cR.out))
   have hb3:=hide (app_below ((hbw.out.drew).alloc hbw.out.drew.size _) (hown.out.drew.alloc _) hg3 (by have:=hbw.out.size;simp;omega) (by omega))
   have hs3:v.heap.size≤w3.heap.size:=by have:=hg3.size;simp at this;omega
   have q1:w3.cell? ⟨w.heap.size+1,1,none⟩=some (.slice A k c):=cell_of_row _ _ 1 _ _ _ cB3
   have qf:=zf cB3 1
   have cS3:=hide (heap_setCell_same w3 (w.heap.size+1) 1 _ _ (.slice A' (k+1) c') cB3)
   have HOwn3:=hide hown3
   clear hg3 hat3 hown3 cB3
   refine hK.out _ _ ?_
   clear hK K
   simp only[Act.put]
   try simp only[zqd,zqe,zqf]
   refine twa 12 24 ?_
   refine xl 13 fun K hK=>?_
   go_wp2_with fail
   refine hK.out _ _ ?_
   clear hK K
   try simp only[zqd,zqe,zqf]
   refine wpAnyL_done (by kernel_rfl) ?_ _
   clear hS0 hSn
   have hset:(w3.setCell ⟨w.heap.size+1,1,none⟩ (.slice A' (k+1) c')).ownsRow v.heap.size 58 3 (.slice A' (k+1) c') (k+1) (edFlat ((ringE n).take (k+1))):=ownsRow_setCell_below HOwn3.out (by show w.heap.size+1<_;omega) _
   have HSet:=hide hset
   have cR4:Hid ((w3.setCell ⟨w.heap.size+1,1,none⟩ (.slice A' (k+1) c')).heap[w.heap.size]?=some (.cells #[.int .i64 0,.slice none 0 0] 24)):=hide ((Below.heap_setCell _ _ _ _ (by show w.heap.size≠w.heap.size+1;omega)).trans cR3.out)
   have hb4:=hide (hb3.out.setCell (p:=⟨w.heap.size+1,1,none⟩) (by show _≤w.heap.size+1;omega) (.slice A' (k+1) c'))
   have hs4:v.heap.size≤(w3.setCell ⟨w.heap.size+1,1,none⟩ (.slice A' (k+1) c')).heap.size:=by rw[World.size_setCell];exact hs3
   clear hset hs3
   go_wp2
   go_roundw
   case rel=>exact⟨k+1,A',c',by omega,by go_num,cR4,cS3,HSet,hb4,hs4⟩
   case measure=>simp[intOf];omega
  obtain rfl:k=n:=by omega
  have g0:wr.cell? ⟨w.heap.size+1,0,none⟩=some (.int .i64 (k:Int)):=cell_of_row _ _ 0 _ _ _ cB.out
  obtain⟨r0,r1⟩:=zr2 cR.out
  have zq:=zf cR.out;have f0:=zq 0;have f1:=zq 1;clear zq
  have hcap:=own_cap hown.out
  have hrd:Eds wr wr.heap.size A (ringE k):=Eds.of_rd (by
   have h:=Rd.of_own hown.out
   rw[List.take_of_length_le (by rw[ring_len];exact Nat.le_refl _)] at h
   exact h) (ring_wt k hn2)
  obtain⟨g,hA,hgb,hgl,hgc⟩:=own_addr hown.out (by omega)
  have hcm:c≤9223372036854775807:=own_max hown.out
  have HRd:=hide hrd
  have HFin:Hid (GraphPost w (k:Int) (ringE k) (.returned (.agg #[.int .i64 (k:Int),.slice A k c])) ((wr.setCell ⟨w.heap.size,0,none⟩ (.int .i64 (k:Int))).setCell ⟨w.heap.size,1,none⟩ (.slice A k c))):=hide (by
   refine⟨A,c,by rw[ring_len],?_,by rw[ring_len];exact hcap,hcm,(hbw.out.setCell (p:=⟨w.heap.size,0,none⟩) (Nat.le_refl _) _).setCell (p:=⟨w.heap.size,1,none⟩) (Nat.le_refl _) _⟩
   refine Eds.of_rd (fun hn=>?_) (ring_wt k hn2)
   obtain⟨b,off,e,hlt,hc⟩:=HRd.out.rd hn
   refine⟨b,off,e,by rw[World.size_setCell,World.size_setCell];exact hlt,fun j u hu=>?_⟩
   rw[hA] at e
   injection e with e
   injection e with e1 e2
   rw[World.cell?_setCell_far _ _ _ _ (by show w.heap.size≠b;omega),World.cell?_setCell_far _ _ _ _ (by show w.heap.size≠b;omega)]
   exact hc j u hu)
  clear hrd hA hcap hcm
  go_wp2
  have s0:((wr.setCell ⟨w.heap.size,0,none⟩ (.int .i64 (k:Int))).setCell ⟨w.heap.size,1,none⟩ (.slice A k c)).cell? ⟨w.heap.size,0,none⟩=some (.int .i64 (k:Int)):=by
   rw[World.cell?_setCell_other _ _ _ _ (by intro e;cases e)]
   exact World.cell?_setCell_same' _ _ _ (by rw[r0];rfl)
  have s1:((wr.setCell ⟨w.heap.size,0,none⟩ (.int .i64 (k:Int))).setCell ⟨w.heap.size,1,none⟩ (.slice A k c)).cell? ⟨w.heap.size,1,none⟩=some (.slice A k c):=
   World.cell?_setCell_same' _ _ _ (by rw[World.cell?_setCell_other _ _ _ _ (by intro e;cases e),r1];rfl)
  exact bodyPost_ret (v:=.agg #[.int .i64 (k:Int),.slice A k c]) (by simp[results,Tryz.results30,go_sem,s0,s1]) rfl HFin.out
end Go.Proofs.YtpgbjabifhjogaaGreat

/- Lemmas: Rsm. -/
import Derived.Test.YtpojjmbalgmcoaaGreatStWw8
set_option linter.unusedVariables false
set_option linter.unusedSimpArgs false
set_option maxRecDepth 100000
set_option maxHeartbeats 16000000
namespace Go.Proofs.YtpojjmbalgmcoaaGreat
open Go.RowKit
theorem rmsame_anyA (w:World) (A B:Option Addr) (xs ys:List Ml) (n m c d:Nat) (hx:xs.length=n) (hy:ys.length=m) (hn:n≤9223372036854775807) (rx:Rd w w.heap.size A (mlFlat xs)) (ry:Rd w w.heap.size B (mlFlat ys)) :
  Calls Tryz.prog 52 #[.slice A n c,.slice B m d] w fun e w'=>e = .returned (.bool (eqL (xs.map nmA) (ys.map nmA)))∧Below w.heap.size w w':=by
 have HX:=hide hx
 have HY:=hide hy
 have RX:=hide rx
 have RY:=hide ry
 clear hx hy rx ry
 by_cases hnm:n=m
 ·obtain rfl:=hnm
  go_enter Tryz.func52,Tryz.ntmps52
  go_wp2
  go_loopw [5] (fun vi wr=>∃i:Nat,i≤n∧vi = .int .i64 i∧Hid (eqL (xs.map nmA) (ys.map nmA)=eqL ((xs.map nmA).drop i) ((ys.map nmA).drop i))∧Hid (Kept w wr)∧Hid (Below w.heap.size w wr)) (fun vi _=>n-(intOf vi).toNat)
  case atStart=>exact⟨0,by omega,rfl,hide rfl,hide (Kept.refl w),hide (Below.refl _ _)⟩
  case round=>
   obtain⟨i,hi,rfl,heq,hkr,hbr⟩:=hrel
   by_cases hlt:i<n
   ·have hi1:i<xs.length:=by rw[HX.out];exact hlt
    have hi2:i<ys.length:=by rw[HY.out];exact hlt
    have HS:=hide (eqL_step (xs.map nmA) (ys.map nmA) i (by rw[List.length_map];exact hi1) (by rw[List.length_map];exact hi2))
    obtain⟨b1,o1,rfl,l1,cx0,cx1⟩:=RX.out.ml (List.getElem?_eq_getElem hi1)
    obtain⟨b2,o2,rfl,l2,cy0,cy1⟩:=RY.out.ml (List.getElem?_eq_getElem hi2)
    rw[List.getElem_map,List.getElem_map] at HS
    obtain⟨x,hx⟩:∃x,xs[i]=x:=⟨_,rfl⟩
    obtain⟨y,hy⟩:∃y,ys[i]=y:=⟨_,rfl⟩
    rw[hx] at cx0 cx1 HS
    rw[hy] at cy0 cy1 HS
    clear hx hy hi1 hi2
    obtain⟨a,x⟩:=x
    obtain⟨b,y⟩:=y
    dsimp only at cx0 cx1 cy0 cy1
    have hI0:(0:Int)≤(i:Int):=by omega
    have hI1:(i:Int)<(n:Int):=by omega
    rcases a with _ | _ <;> rcases b with _ | _
    ·have HE:Hid (eqL (xs.map nmA) (ys.map nmA)=eqL ((xs.map nmA).drop (i+1)) ((ys.map nmA).drop (i+1))):=hide (by rw[heq.out,HS.out,decide_eq_true (by simp[nmA]),Bool.true_and])
     go_wp2
     refine wp_region_held_drew (S:=Kept w) (by kernel_rfl) (fun p hp=>hkr.out p hp) (fun hS0=>?_)
     refine tka 0 17 ?_
     refine tka 1 18 ?_
     refine tka 2 19 ?_
     refine tka 3 20 ?_
     refine tka 4 21 ?_
     refine tka 5 22 ?_
     refine tka 6 23 ?_
     refine tka 7 24 ?_
     refine tka 8 25 ?_
     refine tka 9 26 ?_
     refine tka 10 27 ?_
     refine tka 11 28 ?_
     refine tka 12 29 ?_
     refine tka 13 30 ?_
     refine tka 14 31 ?_
     refine tka 15 32 ?_
     refine tka 16 33 ?_
     refine tka 17 34 ?_
     refine ska 18 35 ?_
     refine ska 19 36 ?_
     refine ska 20 37 ?_
     refine ska 21 38 ?_
     refine ska 22 39 ?_
     refine ska 23 40 ?_
     refine ska 24 41 ?_
     refine ska 25 42 ?_
     refine ska 26 43 ?_
     refine ska 27 44 ?_
     refine ska 28 45 ?_
     refine tka 29 46 ?_
     refine tka 30 47 ?_
     refine wpAnyH_done (by kernel_rfl) ?_ _
     clear hS0
     go_wp2
     go_roundw
     case rel=>exact⟨i+1,by omega,by go_num,HE,hide (fun p hp=>hkr.out p hp),hide hbr.out.drew⟩
     case measure=>simp[intOf];omega
    ·have HE:Hid (eqL (xs.map nmA) (ys.map nmA)=false):=hide (by rw[heq.out,HS.out,decide_eq_false (by simp[nmA]),Bool.false_and])
     go_wp2
     refine wp_region_held_drew (S:=Kept w) (by kernel_rfl) (fun p hp=>hkr.out p hp) (fun hS0=>?_)
     refine tka 0 17 ?_
     refine tka 1 18 ?_
     refine tka 2 19 ?_
     refine tka 3 20 ?_
     refine tka 4 21 ?_
     refine tka 5 22 ?_
     refine tka 6 23 ?_
     refine tka 7 24 ?_
     refine tka 8 25 ?_
     refine tka 9 26 ?_
     refine tka 10 27 ?_
     refine tka 11 28 ?_
     refine ska 12 29 ?_
     refine ska 13 30 ?_
     refine ska 14 31 ?_
     refine ska 15 32 ?_
     refine ska 16 33 ?_
     refine ska 17 34 ?_
     refine ska 18 35 ?_
     refine ska 19 36 ?_
     refine ska 20 37 ?_
     refine ska 21 38 ?_
     refine ska 22 39 ?_
     refine ska 23 40 ?_
     refine ska 24 41 ?_
     refine ska 25 42 ?_
     refine ska 26 43 ?_
     refine ska 27 44 ?_
     refine ska 28 45 ?_
     refine ska 29 46 ?_
     refine tka 30 47 ?_
     refine wpAnyH_done (by kernel_rfl) ?_ _
     clear hS0
     go_wp2
     go_ret
     exact⟨ret_b (by rw[HE.out]),hbr.out.drew⟩
    ·have HE:Hid (eqL (xs.map nmA) (ys.map nmA)=false):=hide (by rw[heq.out,HS.out,decide_eq_false (by simp[nmA]),Bool.false_and])
     go_wp2
     refine wp_region_held_drew (S:=Kept w) (by kernel_rfl) (fun p hp=>hkr.out p hp) (fun hS0=>?_)
     refine tka 0 17 ?_
     refine tka 1 18 ?_
     refine tka 2 19 ?_
     refine tka 3 20 ?_
     refine tka 4 21 ?_
     refine tka 5 22 ?_
     refine tka 6 23 ?_
     refine tka 7 24 ?_
     refine tka 8 25 ?_
     refine tka 9 26 ?_
     refine tka 10 27 ?_
     refine tka 11 28 ?_
     refine ska 12 29 ?_
     refine ska 13 30 ?_
     refine ska 14 31 ?_
     refine ska 15 32 ?_
     refine ska 16 33 ?_
     refine ska 17 34 ?_
     refine ska 18 35 ?_
     refine ska 19 36 ?_
     refine ska 20 37 ?_
     refine ska 21 38 ?_
     refine ska 22 39 ?_
     refine ska 23 40 ?_
     refine ska 24 41 ?_
     refine ska 25 42 ?_
     refine ska 26 43 ?_
     refine ska 27 44 ?_
     refine ska 28 45 ?_
     refine ska 29 46 ?_
     refine tka 30 47 ?_
     refine wpAnyH_done (by kernel_rfl) ?_ _
     clear hS0
     go_wp2
     go_ret
     exact⟨ret_b (by rw[HE.out]),hbr.out.drew⟩
    by_cases hxy:x=y
    ·have HE:Hid (eqL (xs.map nmA) (ys.map nmA)=eqL ((xs.map nmA).drop (i+1)) ((ys.map nmA).drop (i+1))):=hide (by rw[heq.out,HS.out,decide_eq_true (by simp[nmA,hxy]),Bool.true_and])
     subst hxy
     go_wp2
     refine wp_region_held_drew (S:=Kept w) (by kernel_rfl) (fun p hp=>hkr.out p hp) (fun hS0=>?_)
     refine tka 0 17 ?_
     refine tka 1 18 ?_
     refine tka 2 19 ?_
     refine tka 3 20 ?_
     refine tka 4 21 ?_
     refine tka 5 22 ?_
     refine tka 6 23 ?_
     refine tka 7 24 ?_
     refine tka 8 25 ?_
     refine tka 9 26 ?_
     refine tka 10 27 ?_
     refine tka 11 28 ?_
     refine tka 12 29 ?_
     refine tka 13 30 ?_
     refine tka 14 31 ?_
     refine tka 15 32 ?_
     refine tka 16 33 ?_
     refine tka 17 34 ?_
     refine tka 18 35 ?_
     refine tka 19 36 ?_
     refine tka 20 37 ?_
     refine tka 21 38 ?_
     refine tka 22 39 ?_
     refine tka 23 40 ?_
     refine tka 24 41 ?_
     refine tka 25 42 ?_
     refine tka 26 43 ?_
     refine tka 27 44 ?_
     refine tka 28 45 ?_
     refine tka 29 46 ?_
     refine tka 30 47 ?_
     refine wpAnyH_done (by kernel_rfl) ?_ _
     clear hS0
     go_wp2
     go_roundw
     case rel=>exact⟨i+1,by omega,by go_num,HE,hide (fun p hp=>hkr.out p hp),hide hbr.out.drew⟩
     case measure=>simp[intOf];omega
    have HE:Hid (eqL (xs.map nmA) (ys.map nmA)=false):=hide (by rw[heq.out,HS.out,decide_eq_false (by simp[nmA,hxy]),Bool.false_and])
    have hxy':(x == y)=false:=by simp only[beq_eq_false_iff_ne,ne_eq];exact hxy
    have hxy2:(x != y)=true:=by simp only[bne_iff_ne,ne_eq];exact hxy
    clear hxy
    go_wp2
    refine wp_region_held_drew (S:=Kept w) (by kernel_rfl) (fun p hp=>hkr.out p hp) (fun hS0=>?_)
    refine tka 0 17 ?_
    refine tka 1 18 ?_
    refine tka 2 19 ?_
    refine tka 3 20 ?_
    refine tka 4 21 ?_
    refine tka 5 22 ?_
    refine tka 6 23 ?_
    refine tka 7 24 ?_
    refine tka 8 25 ?_
    refine tka 9 26 ?_
    refine tka 10 27 ?_
    refine tka 11 28 ?_
    refine tka 12 29 ?_
    refine tka 13 30 ?_
    refine tka 14 31 ?_
    refine tka 15 32 ?_
    refine tka 16 33 ?_
    refine tka 17 34 ?_
    refine tka 18 35 ?_
    refine tka 19 36 ?_
    refine tka 20 37 ?_
    refine tka 21 38 ?_
    refine tka 22 39 ?_
    refine tka 23 40 ?_
    refine tka 24 41 ?_
    refine tka 25 42 ?_
    refine tka 26 43 ?_
    refine tka 27 44 ?_
    refine tka 28 45 ?_
    refine tka 29 46 ?_
    refine tka 30 47 ?_
    refine wpAnyH_done (by kernel_rfl) ?_ _
    clear hS0
    go_wp2
    go_ret
    exact⟨ret_b (by rw[HE.out]),hbr.out.drew⟩
   obtain rfl:i=n:=by omega
   have HE:Hid (eqL (xs.map nmA) (ys.map nmA)=true):=hide (by rw[heq.out,List.drop_of_length_le (by have:=HX.out;rw[List.length_map];omega),List.drop_of_length_le (by have:=HY.out;rw[List.length_map];omega)];exact eqL_nil)
   go_wp2
   go_ret
   exact⟨ret_b (by rw[HE.out]),hbr.out⟩
 have HE:Hid (eqL (xs.map nmA) (ys.map nmA)=false):=hide (eqL_len (by rw[List.length_map,List.length_map,HX.out,HY.out];exact hnm))
 have hne:((n:Int) == (m:Int))=false:=by simp;omega
 have hne2:((n:Int) != (m:Int))=true:=by simp;omega
 go_enter Tryz.func52,Tryz.ntmps52
 go_wp2
 go_ret
 exact⟨ret_b (by rw[HE.out]),Below.refl _ _⟩
theorem rssame_any (w:World) (p1:SPart) (Ao1 Av1 Ac1 Ai1:Option Addr) (no1 nv1 nc1 ni1 co1 cv1 cc1 ci1:Nat) (hl1:SLen p1 no1 nv1 nc1 ni1) (hi1:SIn w p1 Ao1 Av1 Ac1 Ai1) (p2:SPart) (Ao2 Av2 Ac2 Ai2:Option Addr) (no2 nv2 nc2 ni2 co2 cv2 cc2 ci2:Nat) (hl2:SLen p2 no2 nv2 nc2 ni2) (hi2:SIn w p2 Ao2 Av2 Ac2 Ai2) (bo:no1≤9223372036854775807) (bv:nv1≤9223372036854775807) (bc:nc1≤9223372036854775807) (bi:ni1≤9223372036854775807) :
  Calls Tryz.prog 23 #[.agg #[.int .i64 p1.step,.slice Ao1 no1 co1,.slice Av1 nv1 cv1,.slice Ac1 nc1 cc1,.slice Ai1 ni1 ci1],.agg #[.int .i64 p2.step,.slice Ao2 no2 co2,.slice Av2 nv2 cv2,.slice Ac2 nc2 cc2,.slice Ai2 ni2 ci2]] w fun e w'=>e = .returned (.bool (sameS p1 p2))∧Below w.heap.size w w':=by
 obtain⟨u,hv⟩:∃v,(w.alloc (.cells #[.int .i64 p1.step,.slice Ao1 no1 co1,.slice Av1 nv1 cv1,.slice Ac1 nc1 cc1,.slice Ai1 ni1 ci1] 64)).alloc (.cells #[.int .i64 p2.step,.slice Ao2 no2 co2,.slice Av2 nv2 cv2,.slice Ac2 nc2 cc2,.slice Ai2 ni2 ci2] 64)=v:=⟨_,rfl⟩
 have hz:w.heap.size+2≤u.heap.size:=by rw[←hv];simp
 have hb:Below w.heap.size w u:=by rw[←hv];exact ((Below.refl _ _).alloc (Nat.le_refl _) _).alloc (by simp) _
 have q1:u.heap[w.heap.size]?=some (.cells #[.int .i64 p1.step,.slice Ao1 no1 co1,.slice Av1 nv1 cv1,.slice Ac1 nc1 cc1,.slice Ai1 ni1 ci1] 64):=by rw[←hv];exact (Below.heap_alloc _ _ _ (by simp)).trans (heap_alloc_last w _)
 have q2:u.heap[w.heap.size+1]?=some (.cells #[.int .i64 p2.step,.slice Ao2 no2 co2,.slice Av2 nv2 cv2,.slice Ac2 nc2 cc2,.slice Ai2 ni2 ci2] 64):=by
  rw[←hv]
  have:=heap_alloc_last (w.alloc (.cells #[.int .i64 p1.step,.slice Ao1 no1 co1,.slice Av1 nv1 cv1,.slice Ac1 nc1 cc1,.slice Ai1 ni1 ci1] 64)) (.cells #[.int .i64 p2.step,.slice Ao2 no2 co2,.slice Av2 nv2 cv2,.slice Ac2 nc2 cc2,.slice Ai2 ni2 ci2] 64)
  rw[World.size_alloc] at this
  exact this
 have HB:=hide hb
 have HVB:=hide (show Below w.heap.size w ((w.alloc (.cells #[.int .i64 p1.step,.slice Ao1 no1 co1,.slice Av1 nv1 cv1,.slice Ac1 nc1 cc1,.slice Ai1 ni1 ci1] 64)).alloc (.cells #[.int .i64 p2.step,.slice Ao2 no2 co2,.slice Av2 nv2 cv2,.slice Ac2 nc2 cc2,.slice Ai2 ni2 ci2] 64)) by rw[hv];exact hb)
 have HV:=hide hv
 have HL1:=hide hl1;have HL2:=hide hl2
 have HI1:=hide (hi1.next hb);have HI2:=hide (hi2.next hb)
 have X0:=hide (show u.cell? ⟨w.heap.size,0,none⟩=some (.int .i64 p1.step) from cell_of_row _ _ 0 _ _ _ q1)
 have Y0:=hide (show u.cell? ⟨w.heap.size+1,0,none⟩=some (.int .i64 p2.step) from cell_of_row _ _ 0 _ _ _ q2)
 have X1:=hide (show u.cell? ⟨w.heap.size,1,none⟩=some (.slice Ao1 no1 co1) from cell_of_row _ _ 1 _ _ _ q1)
 have Y1:=hide (show u.cell? ⟨w.heap.size+1,1,none⟩=some (.slice Ao2 no2 co2) from cell_of_row _ _ 1 _ _ _ q2)
 have X2:=hide (show u.cell? ⟨w.heap.size,2,none⟩=some (.slice Av1 nv1 cv1) from cell_of_row _ _ 2 _ _ _ q1)
 have Y2:=hide (show u.cell? ⟨w.heap.size+1,2,none⟩=some (.slice Av2 nv2 cv2) from cell_of_row _ _ 2 _ _ _ q2)
 have X3:=hide (show u.cell? ⟨w.heap.size,3,none⟩=some (.slice Ac1 nc1 cc1) from cell_of_row _ _ 3 _ _ _ q1)
 have Y3:=hide (show u.cell? ⟨w.heap.size+1,3,none⟩=some (.slice Ac2 nc2 cc2) from cell_of_row _ _ 3 _ _ _ q2)
 have X4:=hide (show u.cell? ⟨w.heap.size,4,none⟩=some (.slice Ai1 ni1 ci1) from cell_of_row _ _ 4 _ _ _ q1)
 have Y4:=hide (show u.cell? ⟨w.heap.size+1,4,none⟩=some (.slice Ai2 ni2 ci2) from cell_of_row _ _ 4 _ _ _ q2)
 clear q1 q2 hb hv hl1 hl2 hi1 hi2
 by_cases hstep:p1.step=p2.step
 rotate_left
 ·have hs2:(p1.step == p2.step)=false:=by simpa using hstep
  have hs3:(p1.step != p2.step)=true:=by simpa using hstep
  have HF:Hid (sameS p1 p2=false):=hide (by simp[sameS,hstep])
  go_enter Tryz.func23,Tryz.ntmps23
  go_wp2
  go_ret
  exact⟨ret_b HF.out.symm,HVB.out⟩
 have HS:=hide hstep
 have hs2:(p1.step == p2.step)=true:=by simpa using hstep
 have hs3:(p1.step != p2.step)=false:=by simpa using hstep
 clear hstep
 by_cases h1:no1=no2
 rotate_left
 ·have hz1:((no1:Int) == (no2:Int))=false:=by simp;omega
  have hy1:((no1:Int) != (no2:Int))=true:=by simp;omega
  have HF:Hid (sameS p1 p2=false):=hide (by have e:eqL p1.own p2.own=false:=eqL_len (by rw[HL1.out.1,HL2.out.1];exact h1);simp[sameS,e])
  go_enter Tryz.func23,Tryz.ntmps23
  go_wp2
  go_ret
  exact⟨ret_b HF.out.symm,HVB.out⟩
 subst h1
 by_cases h2:nv1=nv2
 rotate_left
 ·have hz2:((nv1:Int) == (nv2:Int))=false:=by simp;omega
  have hy2:((nv1:Int) != (nv2:Int))=true:=by simp;omega
  have HF:Hid (sameS p1 p2=false):=hide (by have e:eqL p1.vals p2.vals=false:=eqL_len (by rw[HL1.out.2.1,HL2.out.2.1];exact h2);simp[sameS,e])
  go_enter Tryz.func23,Tryz.ntmps23
  go_wp2
  go_ret
  exact⟨ret_b HF.out.symm,HVB.out⟩
 subst h2
 by_cases h3:nc1=nc2
 rotate_left
 ·have hz3:((nc1:Int) == (nc2:Int))=false:=by simp;omega
  have hy3:((nc1:Int) != (nc2:Int))=true:=by simp;omega
  have HF:Hid (sameS p1 p2=false):=hide (by have e:eqL p1.chg p2.chg=false:=eqL_len (by rw[HL1.out.2.2.1,HL2.out.2.2.1];exact h3);simp[sameS,e])
  go_enter Tryz.func23,Tryz.ntmps23
  go_wp2
  go_ret
  exact⟨ret_b HF.out.symm,HVB.out⟩
 subst h3
 have x0:=X0.out
 have y0:=Y0.out
 have x1:=X1.out
 have x2:=X2.out
 have x3:=X3.out
 have x4:=X4.out
 have y1:=Y1.out
 have y2:=Y2.out
 have y3:=Y3.out
 have y4:=Y4.out
 go_enter Tryz.func23,Tryz.ntmps23
 go_wp2_with fail
 rw[HV.out]
 refine (rmsame_anyA u Ai1 Ai2 p1.inb p2.inb ni1 ni2 ci1 ci2 HL1.out.2.2.2 HL2.out.2.2.2 bi HI1.out.inb HI2.out.inb).mono ?_
 rintro e z ⟨rfl,hz⟩
 have KU:=hide hz
 have KP:Hid (Kept u z):=hide (Kept.of_below hz)
 clear hz x0 y0 x1 y1 x2 y2 x3 y3 x4 y4
 rcases hq:eqL (p1.inb.map nmA) (p2.inb.map nmA) with _ | _
 ·have HF:Hid (sameS p1 p2=false):=hide (by simp[sameS,hq])
  have HBf:=hide (HB.out.trans (KU.out.mono HB.out.size))
  clear hq
  go_wp2
  go_ret
  exact⟨ret_b HF.out.symm,HBf.out⟩
 have HM:=hide hq
 clear hq
 go_wp2
 go_loopw [5] (fun vi wr=>∃i:Nat,i≤no1∧vi = .int .i64 i∧Hid (eqL p1.own p2.own=eqL (p1.own.drop i) (p2.own.drop i))∧Hid (Kept u wr)∧Hid (Below u.heap.size u wr)) (fun vi _=>no1-(intOf vi).toNat)
 case atStart=>exact⟨0,by omega,rfl,hide rfl,KP,KU⟩
 case round=>
  clear KP KU
  obtain⟨i,hi,rfl,heq,hkr,hbr⟩:=hrel
  have xr:wr.cell? ⟨w.heap.size,1,none⟩=some (.slice Ao1 no1 co1):=(hkr.out ⟨w.heap.size,1,none⟩ (by show w.heap.size<_;omega)).trans X1.out
  by_cases hlt:i<no1
  ·have hi1:i<p1.own.length:=by rw[HL1.out.1];exact hlt
   have hi2:i<p2.own.length:=by rw[HL2.out.1];exact hlt
   have HSt:=hide (eqL_step p1.own p2.own i hi1 hi2)
   obtain⟨b1,o1,hA1,l1,cx⟩:=HI1.out.own.at1 (i:=i) (i64s_get (List.getElem?_eq_getElem hi1))
   obtain⟨b2,o2,hA2,l2,cy⟩:=HI2.out.own.at1 (i:=i) (i64s_get (List.getElem?_eq_getElem hi2))
   obtain⟨x,hx⟩:∃x,p1.own[i]=x:=⟨_,rfl⟩
   obtain⟨y,hy⟩:∃y,p2.own[i]=y:=⟨_,rfl⟩
   rw[hx] at cx HSt
   rw[hy] at cy HSt
   have hI0:(0:Int)≤(i:Int):=by omega
   have hI1:(i:Int)<(no1:Int):=by omega
   have x1:u.cell? ⟨w.heap.size,1,none⟩=some (.slice (some ⟨b1,o1,none⟩) no1 co1):=by rw[←hA1];exact X1.out
   have y1:u.cell? ⟨w.heap.size+1,1,none⟩=some (.slice (some ⟨b2,o2,none⟩) no1 co2):=by rw[←hA2];exact Y1.out
   have lu0:w.heap.size<u.heap.size:=by omega
   have lu1:w.heap.size+1<u.heap.size:=by omega
   clear hx hy hi1 hi2 hA1 hA2
   by_cases hxy:x=y
   ·have HE:Hid (eqL p1.own p2.own=eqL (p1.own.drop (i+1)) (p2.own.drop (i+1))):=hide (by rw[heq.out,HSt.out,hxy,decide_eq_true rfl,Bool.true_and])
    subst hxy
    all_goals
     go_wp2
     refine wp_region_held_drew (S:=Kept u) (by kernel_rfl) (fun p hp=>hkr.out p hp) (fun hS0=>?_)
     refine tka 0 55 ?_
     refine tka 1 56 ?_
     refine tka 2 57 ?_
     refine tka 3 58 ?_
     refine tka 4 59 ?_
     refine tka 5 60 ?_
     refine tka 6 61 ?_
     refine tka 7 62 ?_
     refine tka 8 63 ?_
     refine tka 9 64 ?_
     refine tka 10 65 ?_
     refine wpAnyH_done (by kernel_rfl) ?_ _
     clear hS0
     go_wp2
     go_roundw
     case rel=>exact⟨i+1,by omega,by go_num,HE,hide (fun p hp=>hkr.out p hp),hide hbr.out.drew⟩
     case measure=>simp[intOf];omega
   have HE:Hid (sameS p1 p2=false):=hide (by rw[sameS,show eqL p1.own p2.own=false by rw[heq.out,HSt.out,decide_eq_false hxy,Bool.false_and]];simp)
   have hxy':(x == y)=false:=by simp only[beq_eq_false_iff_ne,ne_eq];exact hxy
   have hxy2:(x != y)=true:=by simp only[bne_iff_ne,ne_eq];exact hxy
   all_goals
    go_wp2
    refine wp_region_held_drew (S:=Kept u) (by kernel_rfl) (fun p hp=>hkr.out p hp) (fun hS0=>?_)
    refine tka 0 55 ?_
    refine tka 1 56 ?_
    refine tka 2 57 ?_
    refine tka 3 58 ?_
    refine tka 4 59 ?_
    refine tka 5 60 ?_
    refine tka 6 61 ?_
    refine tka 7 62 ?_
    refine tka 8 63 ?_
    refine tka 9 64 ?_
    refine tka 10 65 ?_
    refine wpAnyH_done (by kernel_rfl) ?_ _
    clear hS0
    have HBf:=hide (HB.out.trans (hbr.out.drew.mono HB.out.size))
    go_wp2
    go_ret
    exact⟨ret_b HE.out.symm,HBf.out⟩
  obtain rfl:i=no1:=by omega
  have HQ0:Hid (eqL p1.own p2.own=true):=hide (by rw[heq.out,List.drop_of_length_le (by rw[HL1.out.1];exact Nat.le_refl _),List.drop_of_length_le (by rw[HL2.out.1];exact Nat.le_refl _)];exact eqL_nil)
  have KP:=hkr
  have KU:=hbr
  clear hkr hbr
  obtain⟨w00,rfl⟩:∃z:World,z=wr:=⟨_,rfl⟩
  go_wp2
  clear xr
  go_loopw [6] (fun vi wr=>∃i:Nat,i≤nv1∧vi = .int .i64 i∧Hid (eqL p1.vals p2.vals=eqL (p1.vals.drop i) (p2.vals.drop i))∧Hid (Kept u wr)∧Hid (Below u.heap.size u wr)) (fun vi _=>nv1-(intOf vi).toNat)
  case atStart=>exact⟨0,by omega,rfl,hide rfl,KP,KU⟩
  case round=>
   clear KP KU
   obtain⟨i,hi,rfl,heq,hkr,hbr⟩:=hrel
   have xr:wr.cell? ⟨w.heap.size,2,none⟩=some (.slice Av1 nv1 cv1):=(hkr.out ⟨w.heap.size,2,none⟩ (by show w.heap.size<_;omega)).trans X2.out
   by_cases hlt:i<nv1
   ·have hi1:i<p1.vals.length:=by rw[HL1.out.2.1];exact hlt
    have hi2:i<p2.vals.length:=by rw[HL2.out.2.1];exact hlt
    have HSt:=hide (eqL_step p1.vals p2.vals i hi1 hi2)
    obtain⟨b1,o1,hA1,l1,cx⟩:=HI1.out.vals.at1 (i:=i) (i64s_get (List.getElem?_eq_getElem hi1))
    obtain⟨b2,o2,hA2,l2,cy⟩:=HI2.out.vals.at1 (i:=i) (i64s_get (List.getElem?_eq_getElem hi2))
    obtain⟨x,hx⟩:∃x,p1.vals[i]=x:=⟨_,rfl⟩
    obtain⟨y,hy⟩:∃y,p2.vals[i]=y:=⟨_,rfl⟩
    rw[hx] at cx HSt
    rw[hy] at cy HSt
    have hI0:(0:Int)≤(i:Int):=by omega
    have hI1:(i:Int)<(nv1:Int):=by omega
    have x2:u.cell? ⟨w.heap.size,2,none⟩=some (.slice (some ⟨b1,o1,none⟩) nv1 cv1):=by rw[←hA1];exact X2.out
    have y2:u.cell? ⟨w.heap.size+1,2,none⟩=some (.slice (some ⟨b2,o2,none⟩) nv1 cv2):=by rw[←hA2];exact Y2.out
    have lu0:w.heap.size<u.heap.size:=by omega
    have lu1:w.heap.size+1<u.heap.size:=by omega
    clear hx hy hi1 hi2 hA1 hA2
    by_cases hxy:x=y
    ·have HE:Hid (eqL p1.vals p2.vals=eqL (p1.vals.drop (i+1)) (p2.vals.drop (i+1))):=hide (by rw[heq.out,HSt.out,hxy,decide_eq_true rfl,Bool.true_and])
     subst hxy
     all_goals
      go_wp2
      refine wp_region_held_drew (S:=Kept u) (by kernel_rfl) (fun p hp=>hkr.out p hp) (fun hS0=>?_)
      refine tka 0 73 ?_
      refine tka 1 74 ?_
      refine tka 2 75 ?_
      refine tka 3 76 ?_
      refine tka 4 77 ?_
      refine tka 5 78 ?_
      refine tka 6 79 ?_
      refine tka 7 80 ?_
      refine tka 8 81 ?_
      refine tka 9 82 ?_
      refine tka 10 83 ?_
      refine wpAnyH_done (by kernel_rfl) ?_ _
      clear hS0
      go_wp2
      go_roundw
      case rel=>exact⟨i+1,by omega,by go_num,HE,hide (fun p hp=>hkr.out p hp),hide hbr.out.drew⟩
      case measure=>simp[intOf];omega
    have HE:Hid (sameS p1 p2=false):=hide (by rw[sameS,show eqL p1.vals p2.vals=false by rw[heq.out,HSt.out,decide_eq_false hxy,Bool.false_and]];simp)
    have hxy':(x == y)=false:=by simp only[beq_eq_false_iff_ne,ne_eq];exact hxy
    have hxy2:(x != y)=true:=by simp only[bne_iff_ne,ne_eq];exact hxy
    all_goals
     go_wp2
     refine wp_region_held_drew (S:=Kept u) (by kernel_rfl) (fun p hp=>hkr.out p hp) (fun hS0=>?_)
     refine tka 0 73 ?_
     refine tka 1 74 ?_
     refine tka 2 75 ?_
     refine tka 3 76 ?_
     refine tka 4 77 ?_
     refine tka 5 78 ?_
     refine tka 6 79 ?_
     refine tka 7 80 ?_
     refine tka 8 81 ?_
     refine tka 9 82 ?_
     refine tka 10 83 ?_
     refine wpAnyH_done (by kernel_rfl) ?_ _
     clear hS0
     have HBf:=hide (HB.out.trans (hbr.out.drew.mono HB.out.size))
     go_wp2
     go_ret
     exact⟨ret_b HE.out.symm,HBf.out⟩
   obtain rfl:i=nv1:=by omega
   have HQ1:Hid (eqL p1.vals p2.vals=true):=hide (by rw[heq.out,List.drop_of_length_le (by rw[HL1.out.2.1];exact Nat.le_refl _),List.drop_of_length_le (by rw[HL2.out.2.1];exact Nat.le_refl _)];exact eqL_nil)
   have KP:=hkr
   have KU:=hbr
   clear hkr hbr
   obtain⟨w01,rfl⟩:∃z:World,z=wr:=⟨_,rfl⟩
   go_wp2
   clear xr
   go_loopw [7] (fun vi wr=>∃i:Nat,i≤nc1∧vi = .int .i64 i∧Hid (eqL p1.chg p2.chg=eqL (p1.chg.drop i) (p2.chg.drop i))∧Hid (Kept u wr)∧Hid (Below u.heap.size u wr)) (fun vi _=>nc1-(intOf vi).toNat)
   case atStart=>exact⟨0,by omega,rfl,hide rfl,KP,KU⟩
   case round=>
    clear KP KU
    obtain⟨i,hi,rfl,heq,hkr,hbr⟩:=hrel
    have xr:wr.cell? ⟨w.heap.size,3,none⟩=some (.slice Ac1 nc1 cc1):=(hkr.out ⟨w.heap.size,3,none⟩ (by show w.heap.size<_;omega)).trans X3.out
    by_cases hlt:i<nc1
    ·have hi1:i<p1.chg.length:=by rw[HL1.out.2.2.1];exact hlt
     have hi2:i<p2.chg.length:=by rw[HL2.out.2.2.1];exact hlt
     have HSt:=hide (eqL_step p1.chg p2.chg i hi1 hi2)
     obtain⟨b1,o1,hA1,l1,cx⟩:=HI1.out.chg.at1 (i:=i) (bools_getA? (List.getElem?_eq_getElem hi1))
     obtain⟨b2,o2,hA2,l2,cy⟩:=HI2.out.chg.at1 (i:=i) (bools_getA? (List.getElem?_eq_getElem hi2))
     obtain⟨x,hx⟩:∃x,p1.chg[i]=x:=⟨_,rfl⟩
     obtain⟨y,hy⟩:∃y,p2.chg[i]=y:=⟨_,rfl⟩
     rw[hx] at cx HSt
     rw[hy] at cy HSt
     have hI0:(0:Int)≤(i:Int):=by omega
     have hI1:(i:Int)<(nc1:Int):=by omega
     have x3:u.cell? ⟨w.heap.size,3,none⟩=some (.slice (some ⟨b1,o1,none⟩) nc1 cc1):=by rw[←hA1];exact X3.out
     have y3:u.cell? ⟨w.heap.size+1,3,none⟩=some (.slice (some ⟨b2,o2,none⟩) nc1 cc2):=by rw[←hA2];exact Y3.out
     have lu0:w.heap.size<u.heap.size:=by omega
     have lu1:w.heap.size+1<u.heap.size:=by omega
     clear hx hy hi1 hi2 hA1 hA2
     by_cases hxy:x=y
     ·have HE:Hid (eqL p1.chg p2.chg=eqL (p1.chg.drop (i+1)) (p2.chg.drop (i+1))):=hide (by rw[heq.out,HSt.out,hxy,decide_eq_true rfl,Bool.true_and])
      subst hxy
      cases x
      all_goals
       go_wp2
       refine wp_region_held_drew (S:=Kept u) (by kernel_rfl) (fun p hp=>hkr.out p hp) (fun hS0=>?_)
       refine tka 0 91 ?_
       refine tka 1 92 ?_
       refine tka 2 93 ?_
       refine tka 3 94 ?_
       refine tka 4 95 ?_
       refine tka 5 96 ?_
       refine tka 6 97 ?_
       refine tka 7 98 ?_
       refine tka 8 99 ?_
       refine tka 9 100 ?_
       refine tka 10 101 ?_
       refine wpAnyH_done (by kernel_rfl) ?_ _
       clear hS0
       go_wp2
       go_roundw
       case rel=>exact⟨i+1,by omega,by go_num,HE,hide (fun p hp=>hkr.out p hp),hide hbr.out.drew⟩
       case measure=>simp[intOf];omega
     have HE:Hid (sameS p1 p2=false):=hide (by rw[sameS,show eqL p1.chg p2.chg=false by rw[heq.out,HSt.out,decide_eq_false hxy,Bool.false_and]];simp)
     cases x <;> cases y <;> (first | exact absurd rfl hxy | skip)
     all_goals
      go_wp2
      refine wp_region_held_drew (S:=Kept u) (by kernel_rfl) (fun p hp=>hkr.out p hp) (fun hS0=>?_)
      refine tka 0 91 ?_
      refine tka 1 92 ?_
      refine tka 2 93 ?_
      refine tka 3 94 ?_
      refine tka 4 95 ?_
      refine tka 5 96 ?_
      refine tka 6 97 ?_
      refine tka 7 98 ?_
      refine tka 8 99 ?_
      refine tka 9 100 ?_
      refine tka 10 101 ?_
      refine wpAnyH_done (by kernel_rfl) ?_ _
      clear hS0
      have HBf:=hide (HB.out.trans (hbr.out.drew.mono HB.out.size))
      go_wp2
      go_ret
      exact⟨ret_b HE.out.symm,HBf.out⟩
    obtain rfl:i=nc1:=by omega
    have HQ2:Hid (eqL p1.chg p2.chg=true):=hide (by rw[heq.out,List.drop_of_length_le (by rw[HL1.out.2.2.1];exact Nat.le_refl _),List.drop_of_length_le (by rw[HL2.out.2.2.1];exact Nat.le_refl _)];exact eqL_nil)
    have KP:=hkr
    have KU:=hbr
    clear hkr hbr
    have HF:Hid (sameS p1 p2=true):=hide (by simp[sameS,HS.out,HQ0.out,HQ1.out,HQ2.out,HM.out])
    have HBf:=hide (HB.out.trans (KU.out.mono HB.out.size))
    go_wp2
    go_ret
    exact⟨ret_b HF.out.symm,HBf.out⟩
end Go.Proofs.YtpojjmbalgmcoaaGreat

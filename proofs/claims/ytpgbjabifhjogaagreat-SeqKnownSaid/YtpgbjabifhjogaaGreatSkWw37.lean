/- Lemmas: Rst, Rat. -/
import Derived.Test.YtpgbjabifhjogaaGreatProg
import Derived.Deep.Strs
import Derived.Test.YtpgbjabifhjogaaGreatSkWw36
set_option linter.unusedVariables false
set_option linter.unusedSimpArgs false
set_option maxRecDepth 100000
set_option maxHeartbeats 16000000
namespace Go.Proofs.YtpgbjabifhjogaaGreat
open Go.RowKit Go.Shelf
attribute [local go_sem] Oper.semAt_some
theorem qrnext_any (w:World) (V:Nat) (A:Option Addr) (es:List Ed) (L c:Nat) (hL:es.length=L) (hL5:L≤80) (hE:Eds w w.heap.size A es) (k j1 j2 j3 j4:Int) (hV:V≤512) (hEB:edsB es) (s:SV) (hok:OkS V s) (Aw Ac0 Ai:Option Addr) (cw cc0 ci:Nat) (hin:VIn w s Aw Ac0 Ai) (hs0:0≤s.st) (hs1:s.st≤2000) :
  Calls Tryz.prog 36 #[.agg #[.int .i64 (V:Int),.slice A L c],.agg #[.int .u8 k,.int .i64 j1,.int .i64 j2,.int .i64 j3,.int .i64 j4],.agg #[.int .i64 s.st,.slice Aw V cw,.slice Ac0 V cc0,.slice Ai V ci,.int .i64 s.sm,.int .i64 s.mo]] w (StPost w V (nextV k j3 es V s)):=by
 obtain⟨a0,a0i,a0z,a0s,a0b⟩:=info_parts (show (Tryz.prog.info? 2).map (fun i=>(i.zero,i.size,i.bytes))=some (some (.int .i64 0),1,8) by kernel_rfl)
 obtain⟨b0,b0i,b0z,b0s,b0b⟩:=info_parts (show (Tryz.prog.info? 4).map (fun i=>(i.zero,i.size,i.bytes))=some (some (.bool false),1,1) by kernel_rfl)
 have HL:=hide hL
 have HE:=hide hE
 have HOK:=hide hok
 have HVI:=hide hin
 have hst:IntKind.i64.wrap (s.st+1)=s.st+1:=IntWalk.i64_in _ (by omega)
 clear hL hE hok hin
 go_enter Tryz.func36,Tryz.ntmps36
 go_upto_region 2 with fail
 obtain⟨u,hu⟩:∃u,((((w.alloc (.cells #[.int .i64 (V:Int),.slice A L c] 24)).alloc (.cells #[.int .u8 k,.int .i64 j1,.int .i64 j2,.int .i64 j3,.int .i64 j4] 26)).alloc (.cells #[.int .i64 s.st,.slice Aw V cw,.slice Ac0 V cc0,.slice Ai V ci,.int .i64 s.sm,.int .i64 s.mo] 33)).alloc (.cells #[.int .i64 0,.slice none 0 0,.slice none 0 0,.slice none 0 0,.int .i64 0,.int .i64 0] 33)).alloc (.cells #[.int .i64 (s.st+1),.slice none 0 0,.slice none 0 0,.slice none 0 0,.int .i64 0,.int .i64 0] 33)=u:=⟨_,rfl⟩
 rw[hu]
 have HU:=hide (allocs5 hu)
 clear hu hst
 have hzu:u.heap.size=w.heap.size+5:=HU.out.2.1
 have HBU:=hide HU.out.1
 have GU:=hide HU.out.2.2.1
 have JU:=hide HU.out.2.2.2.1
 have SU:=hide HU.out.2.2.2.2.1
 have RU:=hide HU.out.2.2.2.2.2.1
 have BU:=hide HU.out.2.2.2.2.2.2
 go_wp2
 go_loopw [8,9,10] (fun vi _ _ wr=>∃(i:Nat) (Av:Option Addr) (cv:Nat) (Ac:Option Addr) (cc:Nat),i≤V∧vi = .int .i64 (i:Int)∧Hid (wr.ownsRow u.heap.size 2 1 (.slice Av i cv) i (i64s (nextVals k j3 V s i)))∧Hid (wr.ownsRow u.heap.size 4 1 (.slice Ac i cc) i (bools (nextChs k j3 V s i)))∧Hid (Below w.heap.size w wr)∧Hid ((u.heap.size≤wr.heap.size∧wr.heap[w.heap.size+4]?=some (.cells #[.int .i64 (s.st+1),.slice Av i cv,.slice Ac i cc,.slice none 0 0,.int .i64 0,.int .i64 0] 33))∧∀q,q<u.heap.size→q≠w.heap.size+4→wr.heap[q]?=u.heap[q]?)) (fun vi _ _ _=>V-(intOf vi).toNat)
 case atStart=>exact⟨0,none,0,none,0,by omega,rfl,hide (World.ownsRow_nil _ _ _ _),hide (World.ownsRow_nil _ _ _ _),HBU,hide ⟨⟨Nat.le_refl _,BU.out⟩,fun _ _ _=>rfl⟩⟩
 case round=>
  obtain⟨i,Av,cv,Ac,cc,hi,rfl,HVo,HCo,HBr,HM⟩:=hrel
  have srw:u.heap.size≤wr.heap.size:=HM.out.1.1
  by_cases hlt:i<V
  ·have hI1:(i:Int)<(V:Int):=by omega
   have hI0:(0:Int)≤(i:Int):=by omega
   have G0r:=(HM.out.2 (w.heap.size) (by omega) (by omega)).trans GU.out
   have G1r:=(HM.out.2 (w.heap.size+1) (by omega) (by omega)).trans JU.out
   obtain⟨c0,c1⟩:=zr2 G0r
   obtain⟨d0,d1,d2,d3,d4⟩:=zr5 G1r
   clear G0r G1r
   have zg0:w.heap.size<wr.heap.size:=by omega
   have zg1:w.heap.size+1<wr.heap.size:=by omega
   obtain⟨vx,hvx⟩:∃y,s.vals[i]?=some y:=⟨_,List.getElem?_eq_getElem (by rw[HOK.out.lv];exact hlt)⟩
   obtain⟨g3,o3,rfl,hg3,x0⟩:=HVI.out.vals.at1 (i64s_get hvx)
   have e0:=(HBr.out.cell (p:=⟨g3,o3+i,none⟩) hg3).trans x0
   obtain⟨mm,hmm⟩:∃y,s.inb[i]?=some y:=⟨_,List.getElem?_eq_getElem (by rw[HOK.out.li];exact hlt)⟩
   obtain⟨g4,o4,rfl,hg4,x1,x2⟩:=HVI.out.inb.ml hmm
   have HMX:=hide (HOK.out.bi mm (List.mem_of_getElem? hmm))
   obtain⟨mh,mx⟩:=mm
   dsimp only at x1 x2 HMX
   have e1:wr.cell? ⟨g4,o4+i*2,none⟩=some (.bool mh):=(HBr.out.cell (p:=⟨g4,o4+i*2,none⟩) hg4).trans x1
   have e2:wr.cell? ⟨g4,o4+i*2+1,none⟩=some (.int .i64 mx):=(HBr.out.cell (p:=⟨g4,o4+i*2+1,none⟩) hg4).trans x2
   have HCV:=hide (show compK k (V:Int) vx mh mx s.sm j3=compV k j3 V s i by unfold compV;rw[show s.vals.getD i 0=vx by simp[List.getD_eq_getElem?_getD,hvx],show s.inb.getD i (false,0)=(mh,mx) by simp[List.getD_eq_getElem?_getD,hmm]])
   clear x0 x1 x2 hvx hmm
   have G2:=(HM.out.2 (w.heap.size+2) (by omega) (by omega)).trans SU.out
   have a1:wr.cell? ⟨w.heap.size+1+1,1,none⟩=some (.slice (some ⟨g3,o3,none⟩) V cw):=cell_of_row _ _ 1 _ _ _ G2
   have a3:wr.cell? ⟨w.heap.size+1+1,3,none⟩=some (.slice (some ⟨g4,o4,none⟩) V ci):=cell_of_row _ _ 3 _ _ _ G2
   have a4:wr.cell? ⟨w.heap.size+1+1,4,none⟩=some (.int .i64 s.sm):=cell_of_row _ _ 4 _ _ _ G2
   clear G2
   have hz1:w.heap.size+1+1<wr.heap.size:=by omega
   have hz3:g3<wr.heap.size:=by omega
   have hz4:g4<wr.heap.size:=by omega
   go_upto_region 5 with fail
   refine wp_region_held_drew (S:=Kept wr) (by kernel_rfl) (Kept.drew wr) (fun hS0=>?_)
   refine tka 0 22 ?_
   refine tka 1 23 ?_
   refine tka 2 24 ?_
   refine tka 3 25 ?_
   refine tka 4 26 ?_
   refine tka 5 27 ?_
   refine tka 6 28 ?_
   refine tka 7 29 ?_
   refine tka 8 30 ?_
   refine tka 9 31 ?_
   refine tka 10 32 ?_
   refine tka 11 33 ?_
   refine tka 12 34 ?_
   refine tka 13 35 ?_
   refine tka 14 36 ?_
   refine ck 15 37 fun K hK=>?_
   go_simp
   refine (rcomp_any wr.drew k j1 j2 j3 j4 (V:Int) vx mh mx s.sm (by omega) HMX.out.2 HOK.out.bs.2).mono ?_
   rw[HCV.out]
   rintro e z ⟨rfl,hz⟩
   have hS1:Kept wr z:=hS0.below (Nat.le_refl _) hz
   have HZ:Hid (Below wr.heap.size wr z):=hide (below_undrew hz)
   have szz:wr.heap.size≤z.heap.size:=hz.size
   clear hz
   go_wp2_with fail
   refine hK.out _ _ hS1 (fun hSn=>?_)
   clear hK K
   try simp only[zqd,zqe,zqf]
   refine tka 16 21 ?_
   refine tka 17 38 ?_
   refine tka 18 39 ?_
   refine tka 19 9 ?_
   refine tka 20 10 ?_
   refine wpAnyH_done (by kernel_rfl) ?_ _
   clear hS0 hSn hS1 e0 e1 e2 a1 a3 a4 hz1 hz3 hz4
   clear c0 c1 d0 d1 d2 d3 d4 zg0 zg1
   have HV1:=hide (own_below HVo.out HZ.out (fun g hg=>(HVo.out.lt g hg).2))
   have HC1:=hide (own_below HCo.out HZ.out (fun g hg=>(HCo.out.lt g hg).2))
   have HB1:=hide (HBr.out.trans (HZ.out.mono HBr.out.size))
   have HR1:=hide ((HZ.out.block (w.heap.size+4) (by omega)).trans HM.out.1.2)
   have p1:z.cell? ⟨w.heap.size+1+1+1+1,1,none⟩=some (.slice Av i cv):=cell_of_row _ _ 1 _ _ _ HR1.out
   have pz:w.heap.size+1+1+1+1<z.heap.size:=by omega
   go_wp2_with (at_builtin;refine wpList_app rfl (.tmp 41) (.tmp 43) 29 rfl u.heap.size 2 a0 (.int .i64 0) 1 8 Tryz.underlying29 a0i a0z a0s a0b rfl (by decide) (.slice Av i cv) i _ rfl (HV1.out.alloc _) (z.heap.size+1) (some ⟨z.heap.size,0,none⟩) 1 1 [.int .i64 (compV k j3 V s i).1] rfl rfl (Rd.new _ _ _ _) (by simp[Value.oneCell']) (by unfold maxLen;omega) (by omega) (by simp;omega) ?_)
   intro A2 c2 y own2 hg2 hat2
   have HO_y:Hid (y.ownsRow u.heap.size 2 1 (.slice A2 (i+1) c2) (i+1) (i64s (nextVals k j3 V s (i+1)))):=hide (by rw[nextVals_succ];simpa [i64s,bools,hzu] using own2)
   have HP_y:=hide (own_apart (HC1.out.alloc (.cells #[.int .i64 (compV k j3 V s i).1] 2)) (HV1.out.alloc (.cells #[.int .i64 (compV k j3 V s i).1] 2)) (by decide) hg2)
   have HB_y:=hide (app_below (HB1.out.alloc HB1.out.size (.cells #[.int .i64 (compV k j3 V s i).1] 2)) (HV1.out.alloc (.cells #[.int .i64 (compV k j3 V s i).1] 2)) hg2 (by rw[World.size_alloc];have:=HB1.out.size;omega) (by omega))
   have HQ_y:=hide (show ∀q,q<u.heap.size→y.heap[q]?=z.heap[q]? from fun q hq=>(hg2.block q (by rw[World.size_alloc];omega) (fun e=>by have:=(HV1.out.lt q e.symm).1;omega)).trans (Below.heap_alloc z _ q (by omega)))
   have hs_y:z.heap.size+1≤y.heap.size:=by have:=hg2.size;rwa [World.size_alloc] at this
   clear own2 hg2 hat2
   clear p1 pz
   have q1:y.heap[w.heap.size+4]?=_:=(HQ_y.out (w.heap.size+4) (by omega)).trans HR1.out
   have p1:y.cell? ⟨w.heap.size+1+1+1+1,1,none⟩=some (.slice Av i cv):=cell_of_row _ _ 1 _ _ _ q1
   have f1:=zf q1 1
   have HR2:=hide q1
   clear q1
   go_upto_region 7 with fail
   clear p1 f1
   obtain⟨y1,hy1⟩:∃q,y.setCell ⟨w.heap.size+1+1+1+1,1,none⟩ (.slice A2 (i+1) c2)=q:=⟨_,rfl⟩
   have HV2:=hide (own_set (b:=w.heap.size+1+1+1+1) (j:=1) (u:=.slice A2 (i+1) c2) HO_y.out (by omega))
   have HC2:=hide (own_set (b:=w.heap.size+1+1+1+1) (j:=1) (u:=.slice A2 (i+1) c2) HP_y.out (by omega))
   have HB2:=hide (HB_y.out.setCell (p:=⟨w.heap.size+1+1+1+1,1,none⟩) (by show w.heap.size≤w.heap.size+1+1+1+1;omega) (.slice A2 (i+1) c2))
   have HR3:=hide (set_at1 (x:=.slice A2 (i+1) c2) HR2.out)
   have hs1:=World.size_setCell y ⟨w.heap.size+1+1+1+1,1,none⟩ (.slice A2 (i+1) c2)
   have HQ2:=hide (show ∀q,q<u.heap.size→q≠w.heap.size+1+1+1+1→(y.setCell ⟨w.heap.size+1+1+1+1,1,none⟩ (.slice A2 (i+1) c2)).heap[q]?=z.heap[q]? from fun q hq hn=>(Below.heap_setCell _ _ _ q hn).trans (HQ_y.out q hq))
   rw[hy1] at HV2 HC2 HB2 HR3 hs1 HQ2 ⊢
   have hs2:z.heap.size+1≤y1.heap.size:=by omega
   clear hy1 hs1
   have p2:y1.cell? ⟨w.heap.size+1+1+1+1,2,none⟩=some (.slice Ac i cc):=cell_of_row _ _ 2 _ _ _ HR3.out
   have pz:w.heap.size+1+1+1+1<y1.heap.size:=by omega
   go_wp2_with (at_builtin;refine wpList_app rfl (.tmp 47) (.tmp 49) 30 rfl u.heap.size 4 b0 (.bool false) 1 1 Tryz.underlying30 b0i b0z b0s b0b rfl (by decide) (.slice Ac i cc) i _ rfl (HC2.out.alloc _) (y1.heap.size+1) (some ⟨y1.heap.size,0,none⟩) 1 1 [.bool (compV k j3 V s i).2] rfl rfl (Rd.new _ _ _ _) (by simp[Value.oneCell']) (by unfold maxLen;omega) (by omega) (by simp;omega) ?_)
   intro A3 c3 y2 own2 hg2 hat2
   have HO_y2:Hid (y2.ownsRow u.heap.size 4 1 (.slice A3 (i+1) c3) (i+1) (bools (nextChs k j3 V s (i+1)))):=hide (by rw[nextChs_succ];simpa [i64s,bools,hzu] using own2)
   have HP_y2:=hide (own_apart (HV2.out.alloc (.cells #[.bool (compV k j3 V s i).2] 4)) (HC2.out.alloc (.cells #[.bool (compV k j3 V s i).2] 4)) (by decide) hg2)
   have HB_y2:=hide (app_below (HB2.out.alloc HB2.out.size (.cells #[.bool (compV k j3 V s i).2] 4)) (HC2.out.alloc (.cells #[.bool (compV k j3 V s i).2] 4)) hg2 (by rw[World.size_alloc];have:=HB2.out.size;omega) (by omega))
   have HQ_y2:=hide (show ∀q,q<u.heap.size→y2.heap[q]?=y1.heap[q]? from fun q hq=>(hg2.block q (by rw[World.size_alloc];omega) (fun e=>by have:=(HC2.out.lt q e.symm).1;omega)).trans (Below.heap_alloc y1 _ q (by omega)))
   have hs_y2:y1.heap.size+1≤y2.heap.size:=by have:=hg2.size;rwa [World.size_alloc] at this
   clear own2 hg2 hat2
   clear p2 pz
   have q1:y2.heap[w.heap.size+4]?=_:=(HQ_y2.out (w.heap.size+4) (by omega)).trans HR3.out
   have p2:y2.cell? ⟨w.heap.size+1+1+1+1,2,none⟩=some (.slice Ac i cc):=cell_of_row _ _ 2 _ _ _ q1
   have f2:=zf q1 2
   have HR4:=hide q1
   clear q1
   go_upto_region 4 with fail
   clear p2 f2
   obtain⟨y3,hy3⟩:∃q,y2.setCell ⟨w.heap.size+1+1+1+1,2,none⟩ (.slice A3 (i+1) c3)=q:=⟨_,rfl⟩
   have HC3:=hide (own_set (b:=w.heap.size+1+1+1+1) (j:=2) (u:=.slice A3 (i+1) c3) HO_y2.out (by omega))
   have HV3:=hide (own_set (b:=w.heap.size+1+1+1+1) (j:=2) (u:=.slice A3 (i+1) c3) HP_y2.out (by omega))
   have HB3:=hide (HB_y2.out.setCell (p:=⟨w.heap.size+1+1+1+1,2,none⟩) (by show w.heap.size≤w.heap.size+1+1+1+1;omega) (.slice A3 (i+1) c3))
   have HR5:=hide (set_at2 (x:=.slice A3 (i+1) c3) HR4.out)
   have hs3:=World.size_setCell y2 ⟨w.heap.size+1+1+1+1,2,none⟩ (.slice A3 (i+1) c3)
   have HQ3:=hide (show ∀q,q<u.heap.size→q≠w.heap.size+1+1+1+1→(y2.setCell ⟨w.heap.size+1+1+1+1,2,none⟩ (.slice A3 (i+1) c3)).heap[q]?=u.heap[q]? from fun q hq hn=>(Below.heap_setCell _ _ _ q hn).trans ((HQ_y2.out q hq).trans ((HQ2.out q hq hn).trans ((HZ.out.block q (by omega)).trans (HM.out.2 q hq hn)))))
   rw[hy3] at HV3 HC3 HB3 HR5 hs3 HQ3 ⊢
   have hs4:u.heap.size≤y3.heap.size:=by omega
   clear hy3 hs3
   go_wp2
   go_roundw
   case rel=>exact⟨i+1,A2,c2,A3,c3,by omega,by go_num,HV3,HC3,HB3,hide ⟨⟨hs4,HR5.out⟩,HQ3.out⟩⟩
   case measure=>simp[intOf];omega
  obtain rfl:i=V:=by omega
  have q1:=HM.out.1.2
  have G0r:=(HM.out.2 (w.heap.size) (by omega) (by omega)).trans GU.out
  have G1r:=(HM.out.2 (w.heap.size+1) (by omega) (by omega)).trans JU.out
  obtain⟨c0,c1⟩:=zr2 G0r
  obtain⟨d0,d1,d2,d3,d4⟩:=zr5 G1r
  clear G0r G1r
  have zg0:w.heap.size<wr.heap.size:=by omega
  have zg1:w.heap.size+1<wr.heap.size:=by omega
  obtain⟨s0,s1,s2,s3,s4,s5⟩:=zr6 q1
  have pz:w.heap.size+1+1+1+1<wr.heap.size:=by omega
  have G2:=(HM.out.2 (w.heap.size+2) (by omega) (by omega)).trans SU.out
  have a1:wr.cell? ⟨w.heap.size+1+1,1,none⟩=some (.slice Aw i cw):=cell_of_row _ _ 1 _ _ _ G2
  clear G2
  have pz2:w.heap.size+1+1<wr.heap.size:=by omega
  have HWv:=hide (HVI.out.vals.next HBr.out)
  have HR:=hide q1
  clear q1
  have HEr:=hide ((HE.out.below HBr.out (Nat.le_refl _)).more HBr.out.size)
  go_wp2_with fail
  refine (told_any wr i (by omega) A es L c HL.out hL5 HEr.out hEB k j1 j2 j3 j4 (s.st+1) 0 0 s.vals (nextVals k j3 i s i) (nextChs k j3 i s i) Av Ac none Aw cv cc 0 0 cw ⟨by simp[nextVals],Rd.of_own HVo.out,nextVals_bd HOK.out⟩ ⟨by simp[nextChs],Rd.of_own HCo.out⟩ ⟨HOK.out.lv,HWv.out,HOK.out.bv⟩).mono ?_
  rintro e z ⟨Ai2,ci2,rfl,hrd,hbz,hnew⟩
  have HRD:=hide hrd
  have HBZ:=hide hbz
  have HNW:=hide hnew
  have szz:wr.heap.size≤z.heap.size:=hbz.size
  clear hrd hbz hnew s0 s1 s2 s3 s4 s5 pz a1 pz2
  clear c0 c1 d0 d1 d2 d3 d4 zg0 zg1
  have HR0:=hide ((HBZ.out.block (w.heap.size+3) (by omega)).trans ((HM.out.2 (w.heap.size+3) (by omega) (by omega)).trans RU.out))
  have HVz:=hide ((Rd.of_own HVo.out).next HBZ.out)
  have HCz:=hide ((Rd.of_own HCo.out).next HBZ.out)
  have HNV:=hide (own_new HVo.out (Nat.le_refl _))
  have HNC:=hide (own_new HCo.out (Nat.le_refl _))
  obtain⟨q0,q1,q2,q3,q4,q5⟩:=zr6 HR0.out
  have zq:=zf HR0.out;have f0:=zq 0;have f1:=zq 1;have f2:=zq 2;have f3:=zq 3;have f4:=zq 4;have f5:=zq 5;clear zq
  have zz1:w.heap.size+1+1+1<z.heap.size:=by omega
  go_wp2
  obtain⟨wf,hwf⟩:∃q,(((((z.setCell ⟨w.heap.size+1+1+1,0,none⟩ (.int .i64 (s.st+1))).setCell ⟨w.heap.size+1+1+1,1,none⟩ (.slice Av i cv)).setCell ⟨w.heap.size+1+1+1,2,none⟩ (.slice Ac i cc)).setCell ⟨w.heap.size+1+1+1,3,none⟩ (.slice Ai2 i ci2)).setCell ⟨w.heap.size+1+1+1,4,none⟩ (.int .i64 (totV k es s.vals (nextVals k j3 i s i) (nextChs k j3 i s i) i).1)).setCell ⟨w.heap.size+1+1+1,5,none⟩ (.int .i64 (totV k es s.vals (nextVals k j3 i s i) (nextChs k j3 i s i) i).2)=q:=⟨_,rfl⟩
  have hF:=far6 z (w.heap.size+1+1+1) (w.heap.size+1+1+1) (.int .i64 (s.st+1)) (.slice Av i cv) (.slice Ac i cc) (.slice Ai2 i ci2) (.int .i64 (totV k es s.vals (nextVals k j3 i s i) (nextChs k j3 i s i) i).1) (.int .i64 (totV k es s.vals (nextVals k j3 i s i) (nextChs k j3 i s i) i).2) HR0.out
  rw[hwf] at hF ⊢
  obtain⟨FF,HY⟩:=hF
  obtain⟨y0,y1,y2,y3,y4,y5⟩:=cells6 HY
  clear hwf HY
  exact bodyPost_ret (v:=.agg #[.int .i64 (s.st+1),.slice Av i cv,.slice Ac i cc,.slice Ai2 i ci2,.int .i64 (totV k es s.vals (nextVals k j3 i s i) (nextChs k j3 i s i) i).1,.int .i64 (totV k es s.vals (nextVals k j3 i s i) (nextChs k j3 i s i) i).2]) (by simp[results,Tryz.results36,go_sem,y0,y1,y2,y3,y4,y5]) rfl ⟨Av,Ac,Ai2,cv,cc,ci2,rfl,⟨FF.rd HVz.out HNV.out (by omega) (by omega),FF.rd HCz.out HNC.out (by omega) (by omega),FF.rd HRD.out HNW.out (by omega) (by omega)⟩,(HBr.out.trans (HBZ.out.mono HBr.out.size)).trans (FF.below (by omega) (by omega)),HNV.out.mono (by omega),HNC.out.mono (by omega),HNW.out.mono (by omega)⟩
theorem qrstart_any (w:World) (V:Int) (A:Option Addr) (es:List Ed) (L c:Nat) (hL:es.length=L) (hL9:L≤9223372036854775807) (hE:Eds w w.heap.size A es) (k j1 j2 j3 j4:Int) (hG:acheckF k j1 j2 j3 j4 V es=0→L≤80) :
  Calls Tryz.prog 16 #[.agg #[.int .i64 V,.slice A L c],.agg #[.int .u8 k,.int .i64 j1,.int .i64 j2,.int .i64 j3,.int .i64 j4]] w (TillPost w (acheckF k j1 j2 j3 j4 V es) V.toNat (startV k j2 es V.toNat)):=by
 obtain⟨a0,a0i,a0z,a0s,a0b⟩:=info_parts (show (Tryz.prog.info? 2).map (fun i=>(i.zero,i.size,i.bytes))=some (some (.int .i64 0),1,8) by kernel_rfl)
 obtain⟨b0,b0i,b0z,b0s,b0b⟩:=info_parts (show (Tryz.prog.info? 4).map (fun i=>(i.zero,i.size,i.bytes))=some (some (.bool false),1,1) by kernel_rfl)
 have HL:=hide hL
 have HE:=hide hE
 have HG:=hide hG
 clear hL hE hG
 obtain⟨E,hEe⟩:∃E,acheckF k j1 j2 j3 j4 V es=E:=⟨_,rfl⟩
 have HEe:=hide hEe
 clear hEe
 by_cases hE0:E=0
 rotate_left
 ·have hE1:(E == 0)=false:=by simpa using hE0
  have hE2:(E != 0)=true:=by simpa using hE0
  have HN0:=hide hE0
  clear hE0
  rw[HEe.out]
  go_enter Tryz.func16,Tryz.ntmps16
  go_upto_region 1 with fail
  obtain⟨u0,hu⟩:∃u,((w.alloc (.cells #[.int .i64 V,.slice A L c] 24)).alloc (.cells #[.int .u8 k,.int .i64 j1,.int .i64 j2,.int .i64 j3,.int .i64 j4] 26)).alloc (.cells #[.int .i64 0,.slice none 0 0,.slice none 0 0,.slice none 0 0,.int .i64 0,.int .i64 0] 33)=u:=⟨_,rfl⟩
  rw[hu]
  have HU:=hide (allocs3 hu)
  clear hu
  have hzu0:u0.heap.size=w.heap.size+3:=HU.out.2.1
  obtain⟨c0,c1⟩:=zr2 HU.out.2.2.1
  obtain⟨d0,d1,d2,d3,d4⟩:=zr5 HU.out.2.2.2.1
  have zg0:w.heap.size<u0.heap.size:=by omega
  have zg1:w.heap.size+1<u0.heap.size:=by omega
  have hck:=racheck_any u0 k j1 j2 j3 j4 V A es L c HL.out ((HE.out.below HU.out.1 (Nat.le_refl _)).more HU.out.1.size) hL9
  rw[HEe.out] at hck
  have HCK:=hide hck
  clear hck
  go_wp2_with fail
  refine HCK.out.mono ?_
  rintro e y ⟨rfl,hy⟩
  clear c0 c1 d0 d1 d2 d3 d4 zg0 zg1
  have HY:=hide hy
  have syu:u0.heap.size≤y.heap.size:=hy.size
  clear hy
  have HBw:=hide (HU.out.1.trans (HY.out.mono (by omega)))
  have HRow:=hide ((HY.out.block (w.heap.size+2) (by omega)).trans HU.out.2.2.2.2)
  have hRz:w.heap.size+1+1<y.heap.size:=by omega
  obtain⟨q0,q1,q2,q3,q4,q5⟩:=zr6 HRow.out
  have zq:=zf HRow.out;have f0:=zq 0;have f1:=zq 1;have f2:=zq 2;have f3:=zq 3;have f4:=zq 4;have f5:=zq 5;clear zq
  go_wp2
  obtain⟨wf,hwf⟩:∃q,(((((y.setCell ⟨w.heap.size+1+1,0,none⟩ (.int .i64 0)).setCell ⟨w.heap.size+1+1,1,none⟩ (.slice none 0 0)).setCell ⟨w.heap.size+1+1,2,none⟩ (.slice none 0 0)).setCell ⟨w.heap.size+1+1,3,none⟩ (.slice none 0 0)).setCell ⟨w.heap.size+1+1,4,none⟩ (.int .i64 0)).setCell ⟨w.heap.size+1+1,5,none⟩ (.int .i64 0)=q:=⟨_,rfl⟩
  have hF:=far6 y (w.heap.size+1+1) (w.heap.size+1+1) (.int .i64 0) (.slice none 0 0) (.slice none 0 0) (.slice none 0 0) (.int .i64 0) (.int .i64 0) HRow.out
  rw[hwf] at hF ⊢
  obtain⟨FF,HYY⟩:=hF
  obtain⟨y0,y1,y2,y3,y4,y5⟩:=cells6 HYY
  clear hwf HYY
  exact bodyPost_ret (v:=.tuple #[.agg #[.int .i64 0,.slice none 0 0,.slice none 0 0,.slice none 0 0,.int .i64 0,.int .i64 0],.int .i64 E]) (by simp[results,Tryz.results16,go_sem,y0,y1,y2,y3,y4,y5]) rfl (.inl ⟨HN0.out,rfl,HBw.out.trans (FF.below (by omega) (by omega))⟩)
 subst hE0
 have HEe0:=HEe.out
 obtain⟨⟨hV1,hV,hEB⟩,hk,hj0,hj1⟩:=acheck_ok HEe0
 have hL5:=HG.out HEe0
 clear HEe0
 rw[HEe.out]
 obtain⟨V,rfl⟩:∃q:Nat,V=(q:Int):=⟨V.toNat,by omega⟩
 rw[show ((V:Int)).toNat=V from rfl]
 have hV:V≤512:=by omega
 clear hk hj0 hj1
 go_enter Tryz.func16,Tryz.ntmps16
 go_upto_region 1 with fail
 obtain⟨u0,hu⟩:∃u,((w.alloc (.cells #[.int .i64 (V:Int),.slice A L c] 24)).alloc (.cells #[.int .u8 k,.int .i64 j1,.int .i64 j2,.int .i64 j3,.int .i64 j4] 26)).alloc (.cells #[.int .i64 0,.slice none 0 0,.slice none 0 0,.slice none 0 0,.int .i64 0,.int .i64 0] 33)=u:=⟨_,rfl⟩
 rw[hu]
 have HU:=hide (allocs3 hu)
 clear hu
 have hzu0:u0.heap.size=w.heap.size+3:=HU.out.2.1
 obtain⟨c0,c1⟩:=zr2 HU.out.2.2.1
 obtain⟨d0,d1,d2,d3,d4⟩:=zr5 HU.out.2.2.2.1
 have zg0:w.heap.size<u0.heap.size:=by omega
 have zg1:w.heap.size+1<u0.heap.size:=by omega
 have hck:=racheck_any u0 k j1 j2 j3 j4 (V:Int) A es L c HL.out ((HE.out.below HU.out.1 (Nat.le_refl _)).more HU.out.1.size) hL9
 rw[HEe.out] at hck
 have HCK:=hide hck
 clear hck
 go_wp2_with fail
 refine HCK.out.mono ?_
 rintro e y ⟨rfl,hy⟩
 clear c0 c1 d0 d1 d2 d3 d4 zg0 zg1
 have HY:=hide hy
 have syu:u0.heap.size≤y.heap.size:=hy.size
 clear hy
 have HBw:=hide (HU.out.1.trans (HY.out.mono (by omega)))
 go_upto_region 5 with fail
 obtain⟨u,hu⟩:∃q,y.alloc (.cells #[.int .i64 0,.slice none 0 0,.slice none 0 0,.slice none 0 0,.int .i64 0,.int .i64 0] 33)=q:=⟨_,rfl⟩
 have BU0:u.heap[y.heap.size]?=some (.cells #[.int .i64 0,.slice none 0 0,.slice none 0 0,.slice none 0 0,.int .i64 0,.int .i64 0] 33):=by rw[←hu];exact heap_alloc_last _ _
 have hBy:Below y.heap.size y u:=by rw[←hu];exact (Below.refl _ _).alloc (Nat.le_refl _) _
 have hzu:u.heap.size=y.heap.size+1:=by rw[←hu];simp
 rw[hu]
 obtain⟨Sb,hSb⟩:∃q,y.heap.size=q:=⟨_,rfl⟩
 rw[hSb] at BU0 hzu ⊢
 have BU:=hide BU0
 have HBy:=hide hBy
 have hyS:y.heap.size=Sb:=hSb
 have GU:=hide ((hBy.block w.heap.size (by omega)).trans ((HY.out.block w.heap.size (by omega)).trans HU.out.2.2.1))
 have JU:=hide ((hBy.block (w.heap.size+1) (by omega)).trans ((HY.out.block (w.heap.size+1) (by omega)).trans HU.out.2.2.2.1))
 have RU:=hide ((hBy.block (w.heap.size+2) (by omega)).trans ((HY.out.block (w.heap.size+2) (by omega)).trans HU.out.2.2.2.2))
 have HBU:=hide (HBw.out.trans (hBy.mono (by omega)))
 have hSw:w.heap.size+3≤Sb:=by omega
 clear BU0 hBy hu hSb hyS
 go_wp2
 go_loopw [8,9,10] (fun vi _ _ wr=>∃(i:Nat) (Av:Option Addr) (cv:Nat) (Ac:Option Addr) (cc:Nat),i≤V∧vi = .int .i64 (i:Int)∧Hid (wr.ownsRow u.heap.size 2 1 (.slice Av i cv) i (i64s (startVals k j2 V i)))∧Hid (wr.ownsRow u.heap.size 4 1 (.slice Ac i cc) i (bools (startChs k j2 V i)))∧Hid (Below w.heap.size w wr)∧Hid ((u.heap.size≤wr.heap.size∧wr.heap[Sb]?=some (.cells #[.int .i64 0,.slice Av i cv,.slice Ac i cc,.slice none 0 0,.int .i64 0,.int .i64 0] 33))∧∀q,q<u.heap.size→q≠Sb→wr.heap[q]?=u.heap[q]?)) (fun vi _ _ _=>V-(intOf vi).toNat)
 case atStart=>exact⟨0,none,0,none,0,by omega,rfl,hide (World.ownsRow_nil _ _ _ _),hide (World.ownsRow_nil _ _ _ _),HBU,hide ⟨⟨Nat.le_refl _,BU.out⟩,fun _ _ _=>rfl⟩⟩
 case round=>
  obtain⟨i,Av,cv,Ac,cc,hi,rfl,HVo,HCo,HBr,HM⟩:=hrel
  have srw:u.heap.size≤wr.heap.size:=HM.out.1.1
  by_cases hlt:i<V
  ·have hI1:(i:Int)<(V:Int):=by omega
   have hI0:(0:Int)≤(i:Int):=by omega
   have G0r:=(HM.out.2 (w.heap.size) (by omega) (by omega)).trans GU.out
   have G1r:=(HM.out.2 (w.heap.size+1) (by omega) (by omega)).trans JU.out
   obtain⟨c0,c1⟩:=zr2 G0r
   obtain⟨d0,d1,d2,d3,d4⟩:=zr5 G1r
   clear G0r G1r
   have zg0:w.heap.size<wr.heap.size:=by omega
   have zg1:w.heap.size+1<wr.heap.size:=by omega
   go_wp2_with fail
   refine (rastart_any wr k j1 j2 j3 j4 (V:Int) (i:Int)).mono ?_
   rintro e z ⟨rfl,hz⟩
   have HZ:=hide hz
   have szz:wr.heap.size≤z.heap.size:=hz.size
   clear hz
   clear c0 c1 d0 d1 d2 d3 d4 zg0 zg1
   have HV1:=hide (own_below HVo.out HZ.out (fun g hg=>(HVo.out.lt g hg).2))
   have HC1:=hide (own_below HCo.out HZ.out (fun g hg=>(HCo.out.lt g hg).2))
   have HB1:=hide (HBr.out.trans (HZ.out.mono HBr.out.size))
   have HR1:=hide ((HZ.out.block (Sb) (by omega)).trans HM.out.1.2)
   have p1:z.cell? ⟨Sb,1,none⟩=some (.slice Av i cv):=cell_of_row _ _ 1 _ _ _ HR1.out
   have pz:Sb<z.heap.size:=by omega
   go_wp2_with (at_builtin;refine wpList_app rfl (.tmp 33) (.tmp 35) 29 rfl u.heap.size 2 a0 (.int .i64 0) 1 8 Tryz.underlying29 a0i a0z a0s a0b rfl (by decide) (.slice Av i cv) i _ rfl (HV1.out.alloc _) (z.heap.size+1) (some ⟨z.heap.size,0,none⟩) 1 1 [.int .i64 (startA k j2 (V:Int) (i:Int)).1] rfl rfl (Rd.new _ _ _ _) (by simp[Value.oneCell']) (by unfold maxLen;omega) (by omega) (by simp;omega) ?_)
   intro A2 c2 y own2 hg2 hat2
   have HO_y:Hid (y.ownsRow u.heap.size 2 1 (.slice A2 (i+1) c2) (i+1) (i64s (startVals k j2 V (i+1)))):=hide (by rw[startVals_succ];simpa [i64s,bools,hzu] using own2)
   have HP_y:=hide (own_apart (HC1.out.alloc (.cells #[.int .i64 (startA k j2 (V:Int) (i:Int)).1] 2)) (HV1.out.alloc (.cells #[.int .i64 (startA k j2 (V:Int) (i:Int)).1] 2)) (by decide) hg2)
   have HB_y:=hide (app_below (HB1.out.alloc HB1.out.size (.cells #[.int .i64 (startA k j2 (V:Int) (i:Int)).1] 2)) (HV1.out.alloc (.cells #[.int .i64 (startA k j2 (V:Int) (i:Int)).1] 2)) hg2 (by rw[World.size_alloc];have:=HB1.out.size;omega) (by omega))
   have HQ_y:=hide (show ∀q,q<u.heap.size→y.heap[q]?=z.heap[q]? from fun q hq=>(hg2.block q (by rw[World.size_alloc];omega) (fun e=>by have:=(HV1.out.lt q e.symm).1;omega)).trans (Below.heap_alloc z _ q (by omega)))
   have hs_y:z.heap.size+1≤y.heap.size:=by have:=hg2.size;rwa [World.size_alloc] at this
   clear own2 hg2 hat2
   clear p1 pz
   have q1:y.heap[Sb]?=_:=(HQ_y.out (Sb) (by omega)).trans HR1.out
   have p1:y.cell? ⟨Sb,1,none⟩=some (.slice Av i cv):=cell_of_row _ _ 1 _ _ _ q1
   have f1:=zf q1 1
   have HR2:=hide q1
   clear q1
   go_upto_region 10 with fail
   clear p1 f1
   obtain⟨y1,hy1⟩:∃q,y.setCell ⟨Sb,1,none⟩ (.slice A2 (i+1) c2)=q:=⟨_,rfl⟩
   have HV2:=hide (own_set (b:=Sb) (j:=1) (u:=.slice A2 (i+1) c2) HO_y.out (by omega))
   have HC2:=hide (own_set (b:=Sb) (j:=1) (u:=.slice A2 (i+1) c2) HP_y.out (by omega))
   have HB2:=hide (HB_y.out.setCell (p:=⟨Sb,1,none⟩) (by show w.heap.size≤Sb;omega) (.slice A2 (i+1) c2))
   have HR3:=hide (set_at1 (x:=.slice A2 (i+1) c2) HR2.out)
   have hs1:=World.size_setCell y ⟨Sb,1,none⟩ (.slice A2 (i+1) c2)
   have HQ2:=hide (show ∀q,q<u.heap.size→q≠Sb→(y.setCell ⟨Sb,1,none⟩ (.slice A2 (i+1) c2)).heap[q]?=z.heap[q]? from fun q hq hn=>(Below.heap_setCell _ _ _ q hn).trans (HQ_y.out q hq))
   rw[hy1] at HV2 HC2 HB2 HR3 hs1 HQ2 ⊢
   have hs2:z.heap.size+1≤y1.heap.size:=by omega
   clear hy1 hs1
   have p2:y1.cell? ⟨Sb,2,none⟩=some (.slice Ac i cc):=cell_of_row _ _ 2 _ _ _ HR3.out
   have pz:Sb<y1.heap.size:=by omega
   go_wp2_with (at_builtin;refine wpList_app rfl (.tmp 39) (.tmp 41) 30 rfl u.heap.size 4 b0 (.bool false) 1 1 Tryz.underlying30 b0i b0z b0s b0b rfl (by decide) (.slice Ac i cc) i _ rfl (HC2.out.alloc _) (y1.heap.size+1) (some ⟨y1.heap.size,0,none⟩) 1 1 [.bool (startA k j2 (V:Int) (i:Int)).2] rfl rfl (Rd.new _ _ _ _) (by simp[Value.oneCell']) (by unfold maxLen;omega) (by omega) (by simp;omega) ?_)
   intro A3 c3 y2 own2 hg2 hat2
   have HO_y2:Hid (y2.ownsRow u.heap.size 4 1 (.slice A3 (i+1) c3) (i+1) (bools (startChs k j2 V (i+1)))):=hide (by rw[startChs_succ];simpa [i64s,bools,hzu] using own2)
   have HP_y2:=hide (own_apart (HV2.out.alloc (.cells #[.bool (startA k j2 (V:Int) (i:Int)).2] 4)) (HC2.out.alloc (.cells #[.bool (startA k j2 (V:Int) (i:Int)).2] 4)) (by decide) hg2)
   have HB_y2:=hide (app_below (HB2.out.alloc HB2.out.size (.cells #[.bool (startA k j2 (V:Int) (i:Int)).2] 4)) (HC2.out.alloc (.cells #[.bool (startA k j2 (V:Int) (i:Int)).2] 4)) hg2 (by rw[World.size_alloc];have:=HB2.out.size;omega) (by omega))
   have HQ_y2:=hide (show ∀q,q<u.heap.size→y2.heap[q]?=y1.heap[q]? from fun q hq=>(hg2.block q (by rw[World.size_alloc];omega) (fun e=>by have:=(HC2.out.lt q e.symm).1;omega)).trans (Below.heap_alloc y1 _ q (by omega)))
   have hs_y2:y1.heap.size+1≤y2.heap.size:=by have:=hg2.size;rwa [World.size_alloc] at this
   clear own2 hg2 hat2
   clear p2 pz
   have q1:y2.heap[Sb]?=_:=(HQ_y2.out (Sb) (by omega)).trans HR3.out
   have p2:y2.cell? ⟨Sb,2,none⟩=some (.slice Ac i cc):=cell_of_row _ _ 2 _ _ _ q1
   have f2:=zf q1 2
   have HR4:=hide q1
   clear q1
   go_upto_region 7 with fail
   clear p2 f2
   obtain⟨y3,hy3⟩:∃q,y2.setCell ⟨Sb,2,none⟩ (.slice A3 (i+1) c3)=q:=⟨_,rfl⟩
   have HC3:=hide (own_set (b:=Sb) (j:=2) (u:=.slice A3 (i+1) c3) HO_y2.out (by omega))
   have HV3:=hide (own_set (b:=Sb) (j:=2) (u:=.slice A3 (i+1) c3) HP_y2.out (by omega))
   have HB3:=hide (HB_y2.out.setCell (p:=⟨Sb,2,none⟩) (by show w.heap.size≤Sb;omega) (.slice A3 (i+1) c3))
   have HR5:=hide (set_at2 (x:=.slice A3 (i+1) c3) HR4.out)
   have hs3:=World.size_setCell y2 ⟨Sb,2,none⟩ (.slice A3 (i+1) c3)
   have HQ3:=hide (show ∀q,q<u.heap.size→q≠Sb→(y2.setCell ⟨Sb,2,none⟩ (.slice A3 (i+1) c3)).heap[q]?=u.heap[q]? from fun q hq hn=>(Below.heap_setCell _ _ _ q hn).trans ((HQ_y2.out q hq).trans ((HQ2.out q hq hn).trans ((HZ.out.block q (by omega)).trans (HM.out.2 q hq hn)))))
   rw[hy3] at HV3 HC3 HB3 HR5 hs3 HQ3 ⊢
   have hs4:u.heap.size≤y3.heap.size:=by omega
   clear hy3 hs3
   go_wp2
   go_roundw
   case rel=>exact⟨i+1,A2,c2,A3,c3,by omega,by go_num,HV3,HC3,HB3,hide ⟨⟨hs4,HR5.out⟩,HQ3.out⟩⟩
   case measure=>simp[intOf];omega
  obtain rfl:i=V:=by omega
  have q1:=HM.out.1.2
  have G0r:=(HM.out.2 (w.heap.size) (by omega) (by omega)).trans GU.out
  have G1r:=(HM.out.2 (w.heap.size+1) (by omega) (by omega)).trans JU.out
  obtain⟨c0,c1⟩:=zr2 G0r
  obtain⟨d0,d1,d2,d3,d4⟩:=zr5 G1r
  clear G0r G1r
  have zg0:w.heap.size<wr.heap.size:=by omega
  have zg1:w.heap.size+1<wr.heap.size:=by omega
  obtain⟨s0,s1,s2,s3,s4,s5⟩:=zr6 q1
  have pz:Sb<wr.heap.size:=by omega
  have HR:=hide q1
  clear q1
  have HEr:=hide ((HE.out.below HBr.out (Nat.le_refl _)).more HBr.out.size)
  go_wp2_with fail
  refine (told_any wr i (by omega) A es L c HL.out hL5 HEr.out hEB k j1 j2 j3 j4 (0) 0 0 (startVals k j2 i i) (startVals k j2 i i) (startChs k j2 i i) Av Ac none Av cv cc 0 0 cv ⟨by simp[startVals],Rd.of_own HVo.out,startVals_bd (by omega)⟩ ⟨by simp[startChs],Rd.of_own HCo.out⟩ ⟨by simp[startVals],Rd.of_own HVo.out,startVals_bd (by omega)⟩).mono ?_
  rintro e z ⟨Ai2,ci2,rfl,hrd,hbz,hnew⟩
  have HRD:=hide hrd
  have HBZ:=hide hbz
  have HNW:=hide hnew
  have szz:wr.heap.size≤z.heap.size:=hbz.size
  clear hrd hbz hnew s0 s1 s2 s3 s4 s5 pz
  clear c0 c1 d0 d1 d2 d3 d4 zg0 zg1
  have HR0:=hide ((HBZ.out.block (w.heap.size+2) (by omega)).trans ((HM.out.2 (w.heap.size+2) (by omega) (by omega)).trans RU.out))
  have HVz:=hide ((Rd.of_own HVo.out).next HBZ.out)
  have HCz:=hide ((Rd.of_own HCo.out).next HBZ.out)
  have HNV:=hide (own_new HVo.out (Nat.le_refl _))
  have HNC:=hide (own_new HCo.out (Nat.le_refl _))
  have HRz:=hide ((HBZ.out.block Sb (by omega)).trans HR.out)
  obtain⟨q0,q1,q2,q3,q4,q5⟩:=zr6 HRz.out
  have zq:=zf HRz.out;have f0:=zq 0;have f1:=zq 1;have f2:=zq 2;have f3:=zq 3;have f4:=zq 4;have f5:=zq 5;clear zq
  have zz1:Sb<z.heap.size:=by omega
  go_upto_region 12 with fail
  obtain⟨w2,hw2⟩:∃q,(((((z.setCell ⟨Sb,0,none⟩ (.int .i64 0)).setCell ⟨Sb,1,none⟩ (.slice Av i cv)).setCell ⟨Sb,2,none⟩ (.slice Ac i cc)).setCell ⟨Sb,3,none⟩ (.slice Ai2 i ci2)).setCell ⟨Sb,4,none⟩ (.int .i64 (totV k es (startVals k j2 i i) (startVals k j2 i i) (startChs k j2 i i) i).1)).setCell ⟨Sb,5,none⟩ (.int .i64 (totV k es (startVals k j2 i i) (startVals k j2 i i) (startChs k j2 i i) i).2)=q:=⟨_,rfl⟩
  have hF:=far6 z (Sb) (Sb) (.int .i64 0) (.slice Av i cv) (.slice Ac i cc) (.slice Ai2 i ci2) (.int .i64 (totV k es (startVals k j2 i i) (startVals k j2 i i) (startChs k j2 i i) i).1) (.int .i64 (totV k es (startVals k j2 i i) (startVals k j2 i i) (startChs k j2 i i) i).2) HRz.out
  rw[hw2] at hF ⊢
  clear hw2 q0 f0 q1 f1 q2 f2 q3 f3 q4 f4 q5 f5 zz1
  obtain⟨F1,hY⟩:=hF
  have HY1:=hide hY
  have HF1:=hide F1
  clear hY F1
  have q5:w2.cell? ⟨Sb,5,none⟩=some (.int .i64 (totV k es (startVals k j2 i i) (startVals k j2 i i) (startChs k j2 i i) i).2):=cell_of_row _ _ 5 _ _ _ HY1.out
  have f5:=zf HY1.out 5
  go_upto_region 13 with fail
  obtain⟨w3,hw3⟩:∃q,w2.setCell ⟨Sb,5,none⟩ (.int .i64 0)=q:=⟨_,rfl⟩
  have hF:=FarS.set HF1.out (p:=⟨Sb,5,none⟩) (Or.inl rfl) (.int .i64 0)
  have hY:=set_at5 (x:=.int .i64 0) HY1.out
  rw[hw3] at hF hY ⊢
  have HF2:=hide hF
  have HY2:=hide hY
  clear hw3 hF hY q5 f5
  have HR3:=hide ((HF2.out.block (w.heap.size+2) (by omega) (by omega)).trans HR0.out)
  have sw3:w3.heap.size=z.heap.size:=HF2.out.size
  have zz2:w.heap.size+1+1<w3.heap.size:=by omega
  have zz3:Sb<w3.heap.size:=by omega
  clear sw3
  obtain⟨s0,s1,s2,s3,s4,s5⟩:=zr6 HY2.out
  obtain⟨q0,q1,q2,q3,q4,q5⟩:=zr6 HR3.out
  have zq:=zf HR3.out;have f0:=zq 0;have f1:=zq 1;have f2:=zq 2;have f3:=zq 3;have f4:=zq 4;have f5:=zq 5;clear zq
  go_wp2
  obtain⟨wf,hwf⟩:∃q,(((((w3.setCell ⟨w.heap.size+1+1,0,none⟩ (.int .i64 0)).setCell ⟨w.heap.size+1+1,1,none⟩ (.slice Av i cv)).setCell ⟨w.heap.size+1+1,2,none⟩ (.slice Ac i cc)).setCell ⟨w.heap.size+1+1,3,none⟩ (.slice Ai2 i ci2)).setCell ⟨w.heap.size+1+1,4,none⟩ (.int .i64 (totV k es (startVals k j2 i i) (startVals k j2 i i) (startChs k j2 i i) i).1)).setCell ⟨w.heap.size+1+1,5,none⟩ (.int .i64 0)=q:=⟨_,rfl⟩
  have hF:=far6 w3 (w.heap.size+1+1) (w.heap.size+1+1) (.int .i64 0) (.slice Av i cv) (.slice Ac i cc) (.slice Ai2 i ci2) (.int .i64 (totV k es (startVals k j2 i i) (startVals k j2 i i) (startChs k j2 i i) i).1) (.int .i64 0) HR3.out
  rw[hwf] at hF ⊢
  obtain⟨FF,HY⟩:=hF
  obtain⟨y0,y1,y2,y3,y4,y5⟩:=cells6 HY
  clear hwf HY
  exact bodyPost_ret (v:=.tuple #[.agg #[.int .i64 0,.slice Av i cv,.slice Ac i cc,.slice Ai2 i ci2,.int .i64 (totV k es (startVals k j2 i i) (startVals k j2 i i) (startChs k j2 i i) i).1,.int .i64 0],.int .i64 0]) (by simp[results,Tryz.results16,go_sem,y0,y1,y2,y3,y4,y5]) rfl (.inr ⟨rfl,Av,Ac,Ai2,cv,cc,ci2,rfl,⟨FF.rd (HF2.out.rd HVz.out HNV.out (by omega) (by omega)) HNV.out (by omega) (by omega),FF.rd (HF2.out.rd HCz.out HNC.out (by omega) (by omega)) HNC.out (by omega) (by omega),FF.rd (HF2.out.rd HRD.out HNW.out (by omega) (by omega)) HNW.out (by omega) (by omega)⟩,(HBr.out.trans (HBZ.out.mono HBr.out.size)).trans ((HF2.out.below (by omega) (by omega)).trans (FF.below (by omega) (by omega))),HNV.out.mono (by omega),HNC.out.mono (by omega),HNW.out.mono (by omega)⟩)
attribute [local go_sem] Oper.semAt_some
theorem qrat_any (w:World) (V:Int) (A:Option Addr) (es:List Ed) (L c:Nat) (hL:es.length=L) (hL9:L≤9223372036854775807) (hE:Eds w w.heap.size A es) (k j1 j2 j3 j4:Int) (kk:Int) (hG:acheckF k j1 j2 j3 j4 V es=0→L≤80) :
  Calls Tryz.prog 13 #[.agg #[.int .i64 V,.slice A L c],.agg #[.int .u8 k,.int .i64 j1,.int .i64 j2,.int .i64 j3,.int .i64 j4],.int .i64 kk] w (TillPost w (atE (acheckF k j1 j2 j3 j4 V es) kk) V.toNat (atV k j2 j3 es V.toNat kk.toNat)):=by
 have HL:=hide hL
 have HE:=hide hE
 have HG:=hide hG
 clear hL hE hG
 obtain⟨E,hEe⟩:∃E,acheckF k j1 j2 j3 j4 V es=E:=⟨_,rfl⟩
 have HEe:=hide hEe
 clear hEe
 by_cases hE0:E=0
 rotate_left
 ·have hE1:(E == 0)=false:=by simpa using hE0
  have hE2:(E != 0)=true:=by simpa using hE0
  have HN0:=hide hE0
  clear hE0
  rw[HEe.out]
  go_enter Tryz.func13,Tryz.ntmps13
  go_upto_region 1 with fail
  obtain⟨u,hu⟩:∃u,((w.alloc (.cells #[.int .i64 V,.slice A L c] 24)).alloc (.cells #[.int .u8 k,.int .i64 j1,.int .i64 j2,.int .i64 j3,.int .i64 j4] 26)).alloc (.cells #[.int .i64 0,.slice none 0 0,.slice none 0 0,.slice none 0 0,.int .i64 0,.int .i64 0] 33)=u:=⟨_,rfl⟩
  rw[hu]
  have HU:=hide (allocs3 hu)
  clear hu
  have hzu:u.heap.size=w.heap.size+3:=HU.out.2.1
  obtain⟨c0,c1⟩:=zr2 HU.out.2.2.1
  obtain⟨d0,d1,d2,d3,d4⟩:=zr5 HU.out.2.2.2.1
  have hz0:w.heap.size<u.heap.size:=by omega
  have hz1:w.heap.size+1<u.heap.size:=by omega
  have hst:=qrstart_any u V A es L c HL.out hL9 ((HE.out.below HU.out.1 (Nat.le_refl _)).more HU.out.1.size) k j1 j2 j3 j4 HG.out
  rw[HEe.out] at hst
  have HST:=hide hst
  clear hst
  go_wp2_with fail
  refine HST.out.mono ?_
  rintro e y (⟨_,rfl,hb⟩ | ⟨h0,_⟩)
  rotate_left
  ·exact absurd h0 HN0.out
  have HB:=hide hb
  have syu:u.heap.size≤y.heap.size:=hb.size
  clear hb
  clear c0 c1 d0 d1 d2 d3 d4 hz0 hz1
  go_upto_region 2 with fail
  obtain⟨z0,hz0'⟩:∃q,y.alloc (.cells #[.int .i64 0,.slice none 0 0,.slice none 0 0,.slice none 0 0,.int .i64 0,.int .i64 0] 33)=q:=⟨_,rfl⟩
  have hS0:z0.heap[y.heap.size]?=some (.cells #[.int .i64 0,.slice none 0 0,.slice none 0 0,.slice none 0 0,.int .i64 0,.int .i64 0] 33):=by rw[←hz0'];exact heap_alloc_last _ _
  have hB0:Below y.heap.size y z0:=by rw[←hz0'];exact (Below.refl _ _).alloc (Nat.le_refl _) _
  have hsz:y.heap.size<z0.heap.size:=by rw[←hz0'];simp
  rw[hz0']
  have HRow:=hide ((hB0.block (w.heap.size+2) (by omega)).trans ((HB.out.block (w.heap.size+2) (by omega)).trans HU.out.2.2.2.2))
  have HBw:=hide ((HU.out.1.trans (HB.out.mono (by omega))).trans (hB0.mono (by omega)))
  clear hS0 hB0 hz0'
  have hRz:w.heap.size+1+1<z0.heap.size:=by omega
  obtain⟨q0,q1,q2,q3,q4,q5⟩:=zr6 HRow.out
  have zq:=zf HRow.out;have f0:=zq 0;have f1:=zq 1;have f2:=zq 2;have f3:=zq 3;have f4:=zq 4;have f5:=zq 5;clear zq
  go_wp2
  obtain⟨wf,hwf⟩:∃q,(((((z0.setCell ⟨w.heap.size+1+1,0,none⟩ (.int .i64 0)).setCell ⟨w.heap.size+1+1,1,none⟩ (.slice none 0 0)).setCell ⟨w.heap.size+1+1,2,none⟩ (.slice none 0 0)).setCell ⟨w.heap.size+1+1,3,none⟩ (.slice none 0 0)).setCell ⟨w.heap.size+1+1,4,none⟩ (.int .i64 0)).setCell ⟨w.heap.size+1+1,5,none⟩ (.int .i64 0)=q:=⟨_,rfl⟩
  have hF:=far6 z0 (w.heap.size+1+1) (w.heap.size+1+1) (.int .i64 0) (.slice none 0 0) (.slice none 0 0) (.slice none 0 0) (.int .i64 0) (.int .i64 0) HRow.out
  rw[hwf] at hF ⊢
  obtain⟨FF,HY⟩:=hF
  obtain⟨y0,y1,y2,y3,y4,y5⟩:=cells6 HY
  clear hwf HY
  exact bodyPost_ret (v:=.tuple #[.agg #[.int .i64 0,.slice none 0 0,.slice none 0 0,.slice none 0 0,.int .i64 0,.int .i64 0],.int .i64 E]) (by simp[results,Tryz.results13,go_sem,y0,y1,y2,y3,y4,y5]) rfl (.inl ⟨by rw[atE,if_pos HN0.out];exact HN0.out,by rw[atE,if_pos HN0.out],HBw.out.trans (FF.below (by omega) (by omega))⟩)
 subst hE0
 by_cases hk1:kk<0
 ·rw[show (atE (acheckF k j1 j2 j3 j4 V es) kk)=4 by rw[HEe.out,atE,if_neg (fun h=>h rfl),if_pos (by omega)]]
  go_enter Tryz.func13,Tryz.ntmps13
  go_upto_region 1 with fail
  obtain⟨u,hu⟩:∃u,((w.alloc (.cells #[.int .i64 V,.slice A L c] 24)).alloc (.cells #[.int .u8 k,.int .i64 j1,.int .i64 j2,.int .i64 j3,.int .i64 j4] 26)).alloc (.cells #[.int .i64 0,.slice none 0 0,.slice none 0 0,.slice none 0 0,.int .i64 0,.int .i64 0] 33)=u:=⟨_,rfl⟩
  rw[hu]
  have HU:=hide (allocs3 hu)
  clear hu
  have hzu:u.heap.size=w.heap.size+3:=HU.out.2.1
  obtain⟨c0,c1⟩:=zr2 HU.out.2.2.1
  obtain⟨d0,d1,d2,d3,d4⟩:=zr5 HU.out.2.2.2.1
  have hz0:w.heap.size<u.heap.size:=by omega
  have hz1:w.heap.size+1<u.heap.size:=by omega
  have hst:=qrstart_any u V A es L c HL.out hL9 ((HE.out.below HU.out.1 (Nat.le_refl _)).more HU.out.1.size) k j1 j2 j3 j4 HG.out
  rw[HEe.out] at hst
  have HST:=hide hst
  clear hst
  go_wp2_with fail
  refine HST.out.mono ?_
  rintro e y (⟨h0,_⟩ | ⟨_,Av,Ac,Ai,cv,cc,ci,rfl,hin,hb,n1,n2,n3⟩)
  ·exact absurd rfl h0
  have HI2:=hide hin
  have HB:=hide hb
  have HN2:=hide (And.intro n1 (And.intro n2 n3))
  have syu:u.heap.size≤y.heap.size:=hb.size
  clear hin hb n1 n2 n3
  clear c0 c1 d0 d1 d2 d3 d4 hz0 hz1
  go_upto_region 4 with fail
  obtain⟨z0,hz0'⟩:∃q,y.alloc (.cells #[.int .i64 (startV k j2 es V.toNat).st,.slice Av V.toNat cv,.slice Ac V.toNat cc,.slice Ai V.toNat ci,.int .i64 (startV k j2 es V.toNat).sm,.int .i64 (startV k j2 es V.toNat).mo] 33)=q:=⟨_,rfl⟩
  have hS0:z0.heap[y.heap.size]?=some (.cells #[.int .i64 (startV k j2 es V.toNat).st,.slice Av V.toNat cv,.slice Ac V.toNat cc,.slice Ai V.toNat ci,.int .i64 (startV k j2 es V.toNat).sm,.int .i64 (startV k j2 es V.toNat).mo] 33):=by rw[←hz0'];exact heap_alloc_last _ _
  have hB0:Below y.heap.size y z0:=by rw[←hz0'];exact (Below.refl _ _).alloc (Nat.le_refl _) _
  have hsz:y.heap.size<z0.heap.size:=by rw[←hz0'];simp
  rw[hz0']
  have HRow:=hide ((hB0.block (w.heap.size+2) (by omega)).trans ((HB.out.block (w.heap.size+2) (by omega)).trans HU.out.2.2.2.2))
  have HBw:=hide ((HU.out.1.trans (HB.out.mono (by omega))).trans (hB0.mono (by omega)))
  clear hS0 hB0 hz0'
  have hRz:w.heap.size+1+1<z0.heap.size:=by omega
  obtain⟨q0,q1,q2,q3,q4,q5⟩:=zr6 HRow.out
  have zq:=zf HRow.out;have f0:=zq 0;have f1:=zq 1;have f2:=zq 2;have f3:=zq 3;have f4:=zq 4;have f5:=zq 5;clear zq
  go_wp2
  obtain⟨wf,hwf⟩:∃q,(((((z0.setCell ⟨w.heap.size+1+1,0,none⟩ (.int .i64 0)).setCell ⟨w.heap.size+1+1,1,none⟩ (.slice none 0 0)).setCell ⟨w.heap.size+1+1,2,none⟩ (.slice none 0 0)).setCell ⟨w.heap.size+1+1,3,none⟩ (.slice none 0 0)).setCell ⟨w.heap.size+1+1,4,none⟩ (.int .i64 0)).setCell ⟨w.heap.size+1+1,5,none⟩ (.int .i64 0)=q:=⟨_,rfl⟩
  have hF:=far6 z0 (w.heap.size+1+1) (w.heap.size+1+1) (.int .i64 0) (.slice none 0 0) (.slice none 0 0) (.slice none 0 0) (.int .i64 0) (.int .i64 0) HRow.out
  rw[hwf] at hF ⊢
  obtain⟨FF,HY⟩:=hF
  obtain⟨y0,y1,y2,y3,y4,y5⟩:=cells6 HY
  clear hwf HY
  exact bodyPost_ret (v:=.tuple #[.agg #[.int .i64 0,.slice none 0 0,.slice none 0 0,.slice none 0 0,.int .i64 0,.int .i64 0],.int .i64 4]) (by simp[results,Tryz.results13,go_sem,y0,y1,y2,y3,y4,y5]) rfl (.inl ⟨by decide,rfl,HBw.out.trans (FF.below (by omega) (by omega))⟩)
 have hk1':0≤kk:=by omega
 by_cases hk2:2000<kk
 ·rw[show (atE (acheckF k j1 j2 j3 j4 V es) kk)=4 by rw[HEe.out,atE,if_neg (fun h=>h rfl),if_pos (by omega)]]
  go_enter Tryz.func13,Tryz.ntmps13
  go_upto_region 1 with fail
  obtain⟨u,hu⟩:∃u,((w.alloc (.cells #[.int .i64 V,.slice A L c] 24)).alloc (.cells #[.int .u8 k,.int .i64 j1,.int .i64 j2,.int .i64 j3,.int .i64 j4] 26)).alloc (.cells #[.int .i64 0,.slice none 0 0,.slice none 0 0,.slice none 0 0,.int .i64 0,.int .i64 0] 33)=u:=⟨_,rfl⟩
  rw[hu]
  have HU:=hide (allocs3 hu)
  clear hu
  have hzu:u.heap.size=w.heap.size+3:=HU.out.2.1
  obtain⟨c0,c1⟩:=zr2 HU.out.2.2.1
  obtain⟨d0,d1,d2,d3,d4⟩:=zr5 HU.out.2.2.2.1
  have hz0:w.heap.size<u.heap.size:=by omega
  have hz1:w.heap.size+1<u.heap.size:=by omega
  have hst:=qrstart_any u V A es L c HL.out hL9 ((HE.out.below HU.out.1 (Nat.le_refl _)).more HU.out.1.size) k j1 j2 j3 j4 HG.out
  rw[HEe.out] at hst
  have HST:=hide hst
  clear hst
  go_wp2_with fail
  refine HST.out.mono ?_
  rintro e y (⟨h0,_⟩ | ⟨_,Av,Ac,Ai,cv,cc,ci,rfl,hin,hb,n1,n2,n3⟩)
  ·exact absurd rfl h0
  have HI2:=hide hin
  have HB:=hide hb
  have HN2:=hide (And.intro n1 (And.intro n2 n3))
  have syu:u.heap.size≤y.heap.size:=hb.size
  clear hin hb n1 n2 n3
  clear c0 c1 d0 d1 d2 d3 d4 hz0 hz1
  go_upto_region 4 with fail
  obtain⟨z0,hz0'⟩:∃q,y.alloc (.cells #[.int .i64 (startV k j2 es V.toNat).st,.slice Av V.toNat cv,.slice Ac V.toNat cc,.slice Ai V.toNat ci,.int .i64 (startV k j2 es V.toNat).sm,.int .i64 (startV k j2 es V.toNat).mo] 33)=q:=⟨_,rfl⟩
  have hS0:z0.heap[y.heap.size]?=some (.cells #[.int .i64 (startV k j2 es V.toNat).st,.slice Av V.toNat cv,.slice Ac V.toNat cc,.slice Ai V.toNat ci,.int .i64 (startV k j2 es V.toNat).sm,.int .i64 (startV k j2 es V.toNat).mo] 33):=by rw[←hz0'];exact heap_alloc_last _ _
  have hB0:Below y.heap.size y z0:=by rw[←hz0'];exact (Below.refl _ _).alloc (Nat.le_refl _) _
  have hsz:y.heap.size<z0.heap.size:=by rw[←hz0'];simp
  rw[hz0']
  have HRow:=hide ((hB0.block (w.heap.size+2) (by omega)).trans ((HB.out.block (w.heap.size+2) (by omega)).trans HU.out.2.2.2.2))
  have HBw:=hide ((HU.out.1.trans (HB.out.mono (by omega))).trans (hB0.mono (by omega)))
  clear hS0 hB0 hz0'
  have hRz:w.heap.size+1+1<z0.heap.size:=by omega
  obtain⟨q0,q1,q2,q3,q4,q5⟩:=zr6 HRow.out
  have zq:=zf HRow.out;have f0:=zq 0;have f1:=zq 1;have f2:=zq 2;have f3:=zq 3;have f4:=zq 4;have f5:=zq 5;clear zq
  go_wp2
  obtain⟨wf,hwf⟩:∃q,(((((z0.setCell ⟨w.heap.size+1+1,0,none⟩ (.int .i64 0)).setCell ⟨w.heap.size+1+1,1,none⟩ (.slice none 0 0)).setCell ⟨w.heap.size+1+1,2,none⟩ (.slice none 0 0)).setCell ⟨w.heap.size+1+1,3,none⟩ (.slice none 0 0)).setCell ⟨w.heap.size+1+1,4,none⟩ (.int .i64 0)).setCell ⟨w.heap.size+1+1,5,none⟩ (.int .i64 0)=q:=⟨_,rfl⟩
  have hF:=far6 z0 (w.heap.size+1+1) (w.heap.size+1+1) (.int .i64 0) (.slice none 0 0) (.slice none 0 0) (.slice none 0 0) (.int .i64 0) (.int .i64 0) HRow.out
  rw[hwf] at hF ⊢
  obtain⟨FF,HY⟩:=hF
  obtain⟨y0,y1,y2,y3,y4,y5⟩:=cells6 HY
  clear hwf HY
  exact bodyPost_ret (v:=.tuple #[.agg #[.int .i64 0,.slice none 0 0,.slice none 0 0,.slice none 0 0,.int .i64 0,.int .i64 0],.int .i64 4]) (by simp[results,Tryz.results13,go_sem,y0,y1,y2,y3,y4,y5]) rfl (.inl ⟨by decide,rfl,HBw.out.trans (FF.below (by omega) (by omega))⟩)
 have hk2':kk≤2000:=by omega
 have HEe0:=HEe.out
 obtain⟨⟨hV1,hV,hEB⟩,hk,hj0,hj1⟩:=acheck_ok HEe0
 have hL5:=HG.out HEe0
 clear HEe0
 rw[show (atE (acheckF k j1 j2 j3 j4 V es) kk)=0 by rw[HEe.out,atE,if_neg (fun h=>h rfl),if_neg (by omega)]]
 obtain⟨V,rfl⟩:∃q:Nat,V=(q:Int):=⟨V.toNat,by omega⟩
 rw[show ((V:Int)).toNat=V from rfl]
 have hV:V≤512:=by omega
 clear hk hj0 hj1
 obtain⟨N,hNe⟩:∃q,kk.toNat=q:=⟨_,rfl⟩
 rw[hNe]
 have hN0:(N:Int)=kk:=by omega
 have hN:N≤2000:=by omega
 clear hNe
 go_enter Tryz.func13,Tryz.ntmps13
 go_upto_region 1 with fail
 obtain⟨u,hu⟩:∃u,((w.alloc (.cells #[.int .i64 (V:Int),.slice A L c] 24)).alloc (.cells #[.int .u8 k,.int .i64 j1,.int .i64 j2,.int .i64 j3,.int .i64 j4] 26)).alloc (.cells #[.int .i64 0,.slice none 0 0,.slice none 0 0,.slice none 0 0,.int .i64 0,.int .i64 0] 33)=u:=⟨_,rfl⟩
 rw[hu]
 have HU:=hide (allocs3 hu)
 clear hu
 have hzu:u.heap.size=w.heap.size+3:=HU.out.2.1
 obtain⟨c0,c1⟩:=zr2 HU.out.2.2.1
 obtain⟨d0,d1,d2,d3,d4⟩:=zr5 HU.out.2.2.2.1
 have hz0:w.heap.size<u.heap.size:=by omega
 have hz1:w.heap.size+1<u.heap.size:=by omega
 have hst:=qrstart_any u (V:Int) A es L c HL.out hL9 ((HE.out.below HU.out.1 (Nat.le_refl _)).more HU.out.1.size) k j1 j2 j3 j4 HG.out
 rw[HEe.out] at hst
 have HST:=hide hst
 clear hst
 go_wp2_with fail
 refine HST.out.mono ?_
 rw[show ((V:Int)).toNat=V from rfl]
 rintro e y (⟨h0,_⟩ | ⟨_,Av,Ac,Ai,cv,cc,ci,rfl,hin,hb,n1,n2,n3⟩)
 ·exact absurd rfl h0
 have HI2:=hide hin
 have HB:=hide hb
 have HN2:=hide (And.intro n1 (And.intro n2 n3))
 have syu:u.heap.size≤y.heap.size:=hb.size
 clear hin hb n1 n2 n3
 clear c0 c1 d0 d1 d2 d3 d4 hz0 hz1
 go_wp2
 obtain⟨z0,hz0'⟩:∃q,y.alloc (.cells #[.int .i64 (startV k j2 es V).st,.slice Av V cv,.slice Ac V cc,.slice Ai V ci,.int .i64 (startV k j2 es V).sm,.int .i64 (startV k j2 es V).mo] 33)=q:=⟨_,rfl⟩
 have hS0:z0.heap[y.heap.size]?=some (.cells #[.int .i64 (startV k j2 es V).st,.slice Av V cv,.slice Ac V cc,.slice Ai V ci,.int .i64 (startV k j2 es V).sm,.int .i64 (startV k j2 es V).mo] 33):=by rw[←hz0'];exact heap_alloc_last _ _
 have hB0:Below y.heap.size y z0:=by rw[←hz0'];exact (Below.refl _ _).alloc (Nat.le_refl _) _
 have hsz:y.heap.size<z0.heap.size:=by rw[←hz0'];simp
 rw[hz0']
 obtain⟨Sb,hSb⟩:∃q,y.heap.size=q:=⟨_,rfl⟩
 have HI0:=hide (HI2.out.next hB0)
 have GU:=hide ((hB0.block w.heap.size (by omega)).trans ((HB.out.block w.heap.size (by omega)).trans HU.out.2.2.1))
 have JU:=hide ((hB0.block (w.heap.size+1) (by omega)).trans ((HB.out.block (w.heap.size+1) (by omega)).trans HU.out.2.2.2.1))
 have RU:=hide ((hB0.block (w.heap.size+2) (by omega)).trans ((HB.out.block (w.heap.size+2) (by omega)).trans HU.out.2.2.2.2))
 have HBw:=hide ((HU.out.1.trans (HB.out.mono (by omega))).trans (hB0.mono (by omega)))
 rw[hSb] at hS0 hsz ⊢
 have HS0:=hide hS0
 have hSu:u.heap.size≤Sb:=by omega
 clear hS0 hB0 hz0' hSb
 go_loopw [28] (fun _ wr=>∃(n:Nat) (Av Ac Ai:Option Addr) (cv cc ci:Nat),n≤N∧Hid (wr.heap[Sb]?=some (.cells #[.int .i64 (atV k j2 j3 es V n).st,.slice Av V cv,.slice Ac V cc,.slice Ai V ci,.int .i64 (atV k j2 j3 es V n).sm,.int .i64 (atV k j2 j3 es V n).mo] 33))∧Hid (VIn wr (atV k j2 j3 es V n) Av Ac Ai)∧Hid (NewA u.heap.size Av∧NewA u.heap.size Ac∧NewA u.heap.size Ai)∧Hid (Below Sb z0 wr)) (fun _ wr=>N-stepAt Sb wr)
 case atStart=>exact⟨0,Av,Ac,Ai,cv,cc,ci,by omega,HS0,HI0,HN2,hide (Below.refl _ _)⟩
 case round=>
  obtain⟨n,Av,Ac,Ai,cv,cc,ci,hn,HS,HI,HN,HBr⟩:=hrel
  have srw:Sb≤wr.heap.size:=by have:=HBr.out.size;omega
  obtain⟨s0,s1,s2,s3,s4,s5⟩:=zr6 HS.out
  have hSw:Sb<wr.heap.size:=(Array.getElem?_eq_some_iff.1 HS.out).1
  have GW:=hide ((HBr.out.block w.heap.size (by omega)).trans GU.out)
  have JW:=hide ((HBr.out.block (w.heap.size+1) (by omega)).trans JU.out)
  by_cases hlt:n<N
  ·have hlt2:(atV k j2 j3 es V n).st<kk:=by rw[atV_st];omega
   have HZ1:=hide (Below.refl wr.heap.size wr)
   have GZ:=GW
   have JZ:=JW
   have HS1:=HS
   have hSz:=hSw
   obtain⟨c0,c1⟩:=zr2 GZ.out
   obtain⟨d0,d1,d2,d3,d4⟩:=zr5 JZ.out
   have hz0:w.heap.size<wr.heap.size:=by omega
   have hz1:w.heap.size+1<wr.heap.size:=by omega
   have HEz:=hide ((HE.out.below (HBw.out.trans (HBr.out.mono (by omega))) (Nat.le_refl _)).more ((HBw.out.trans (HBr.out.mono (by omega))).size))
   go_wp2_with fail
   refine (qrnext_any wr V A es L c HL.out hL5 HEz.out k j1 j2 j3 j4 hV hEB (atV k j2 j3 es V n) (atV_ok (by omega) hEB n) Av Ac Ai cv cc ci (HI.out.next HZ1.out) (by rw[atV_st];omega) (by rw[atV_st];omega)).mono ?_
   rw[show nextV k j3 es V (atV k j2 j3 es V n)=atV k j2 j3 es V (n+1) from rfl]
   rintro e z2 ⟨Av2,Ac2,Ai2,cv2,cc2,ci2,rfl,hi2,hz2,n1,n2,n3⟩
   have HI2:=hide hi2
   have HZ2:=hide hz2
   have HN2:=hide (And.intro n1 (And.intro n2 n3))
   have sz2:wr.heap.size≤z2.heap.size:=hz2.size
   clear hi2 hz2 n1 n2 n3
   clear s0 s1 s2 s3 s4 s5
   clear c0 c1 d0 d1 d2 d3 d4 hz0 hz1
   have HS2:=hide ((HZ2.out.block Sb hSz).trans HS1.out)
   obtain⟨s0,s1,s2,s3,s4,s5⟩:=zr6 HS2.out
   have zq:=zf HS2.out;have f0:=zq 0;have f1:=zq 1;have f2:=zq 2;have f3:=zq 3;have f4:=zq 4;have f5:=zq 5;clear zq
   have hSy:Sb<z2.heap.size:=by omega
   go_wp2
   obtain⟨y4,hy4⟩:∃q,(((((z2.setCell ⟨Sb,0,none⟩ (.int .i64 (atV k j2 j3 es V (n+1)).st)).setCell ⟨Sb,1,none⟩ (.slice Av2 V cv2)).setCell ⟨Sb,2,none⟩ (.slice Ac2 V cc2)).setCell ⟨Sb,3,none⟩ (.slice Ai2 V ci2)).setCell ⟨Sb,4,none⟩ (.int .i64 (atV k j2 j3 es V (n+1)).sm)).setCell ⟨Sb,5,none⟩ (.int .i64 (atV k j2 j3 es V (n+1)).mo)=q:=⟨_,rfl⟩
   have hF:=far6 z2 Sb Sb (.int .i64 (atV k j2 j3 es V (n+1)).st) (.slice Av2 V cv2) (.slice Ac2 V cc2) (.slice Ai2 V ci2) (.int .i64 (atV k j2 j3 es V (n+1)).sm) (.int .i64 (atV k j2 j3 es V (n+1)).mo) HS2.out
   rw[hy4] at hF ⊢
   obtain⟨F4,hY⟩:=hF
   have HF4:=hide F4
   have HY4:=hide hY
   clear hy4 F4 hY
   clear s0 s1 s2 s3 s4 s5 f0 f1 f2 f3 f4 f5
   have HI4:Hid (VIn y4 (atV k j2 j3 es V (n+1)) Av2 Ac2 Ai2):=hide ⟨HF4.out.rd HI2.out.vals HN2.out.1 (by omega) (by omega),HF4.out.rd HI2.out.chg HN2.out.2.1 (by omega) (by omega),HF4.out.rd HI2.out.inb HN2.out.2.2 (by omega) (by omega)⟩
   have HB4:=hide (((HBr.out.trans (HZ1.out.mono srw)).trans (HZ2.out.mono (show Sb≤wr.heap.size by omega))).trans (HF4.out.below (Nat.le_refl _) (Nat.le_refl _)))
   have HN4:Hid (NewA u.heap.size Av2∧NewA u.heap.size Ac2∧NewA u.heap.size Ai2):=hide ⟨HN2.out.1.mono (by omega),HN2.out.2.1.mono (by omega),HN2.out.2.2.mono (by omega)⟩
   have hst:=stepAt_of (cell_of_row _ _ 0 _ _ _ HY4.out)
   have hst0:=stepAt_of (cell_of_row _ _ 0 _ _ _ HS.out)
   rw[atV_st] at hst hst0
   go_roundw
   case rel=>exact⟨n+1,Av2,Ac2,Ai2,cv2,cc2,ci2,by omega,HY4,HI4,HN4,HB4⟩
   case measure=>rw[hst,hst0];simp;omega
  obtain rfl:n=N:=by omega
  have hge:¬(atV k j2 j3 es V n).st<kk:=by rw[atV_st];omega
  have HZ1:=hide (Below.refl wr.heap.size wr)
  have HS1:=HS
  have sz1:wr.heap.size≤wr.heap.size:=Nat.le_refl _
  have HRow:=hide ((HZ1.out.block (w.heap.size+2) (by omega)).trans ((HBr.out.block (w.heap.size+2) (by omega)).trans RU.out))
  have HIz:=HI.out.next HZ1.out
  have HIZ:=hide HIz
  clear HIz
  have hRz:w.heap.size+1+1<wr.heap.size:=by omega
  obtain⟨q0,q1,q2,q3,q4,q5⟩:=zr6 HRow.out
  have zq:=zf HRow.out;have f0:=zq 0;have f1:=zq 1;have f2:=zq 2;have f3:=zq 3;have f4:=zq 4;have f5:=zq 5;clear zq
  go_wp2
  obtain⟨wf,hwf⟩:∃q,(((((wr.setCell ⟨w.heap.size+1+1,0,none⟩ (.int .i64 (atV k j2 j3 es V n).st)).setCell ⟨w.heap.size+1+1,1,none⟩ (.slice Av V cv)).setCell ⟨w.heap.size+1+1,2,none⟩ (.slice Ac V cc)).setCell ⟨w.heap.size+1+1,3,none⟩ (.slice Ai V ci)).setCell ⟨w.heap.size+1+1,4,none⟩ (.int .i64 (atV k j2 j3 es V n).sm)).setCell ⟨w.heap.size+1+1,5,none⟩ (.int .i64 (atV k j2 j3 es V n).mo)=q:=⟨_,rfl⟩
  have hF:=far6 wr (w.heap.size+1+1) (w.heap.size+1+1) (.int .i64 (atV k j2 j3 es V n).st) (.slice Av V cv) (.slice Ac V cc) (.slice Ai V ci) (.int .i64 (atV k j2 j3 es V n).sm) (.int .i64 (atV k j2 j3 es V n).mo) HRow.out
  rw[hwf] at hF ⊢
  obtain⟨FF,HY⟩:=hF
  obtain⟨y0,y1,y2,y3,y4,y5⟩:=cells6 HY
  clear hwf HY
  exact bodyPost_ret (v:=.tuple #[.agg #[.int .i64 (atV k j2 j3 es V n).st,.slice Av V cv,.slice Ac V cc,.slice Ai V ci,.int .i64 (atV k j2 j3 es V n).sm,.int .i64 (atV k j2 j3 es V n).mo],.int .i64 0]) (by simp[results,Tryz.results13,go_sem,y0,y1,y2,y3,y4,y5]) rfl (.inr ⟨rfl,Av,Ac,Ai,cv,cc,ci,rfl,⟨FF.rd HIZ.out.vals HN.out.1 (by omega) (by omega),FF.rd HIZ.out.chg HN.out.2.1 (by omega) (by omega),FF.rd HIZ.out.inb HN.out.2.2 (by omega) (by omega)⟩,(HBw.out.trans ((HBr.out.mono (by omega)).trans (HZ1.out.mono (by omega)))).trans (FF.below (by omega) (by omega)),HN.out.1.mono (by omega),HN.out.2.1.mono (by omega),HN.out.2.2.mono (by omega)⟩)
theorem qrrun_any (w:World) (V:Int) (A:Option Addr) (es:List Ed) (L c:Nat) (hL:es.length=L) (hL9:L≤9223372036854775807) (hE:Eds w w.heap.size A es) (k j1 j2 j3 j4:Int)  (hG:acheckF k j1 j2 j3 j4 V es=0→L≤80) :
  Calls Tryz.prog 22 #[.agg #[.int .i64 V,.slice A L c],.agg #[.int .u8 k,.int .i64 j1,.int .i64 j2,.int .i64 j3,.int .i64 j4]] w (TillPost w (acheckF k j1 j2 j3 j4 V es) V.toNat (atV k j2 j3 es V.toNat (runN k j1 j2 j3 j4 es V.toNat))):=by
 have HL:=hide hL
 have HE:=hide hE
 have HG:=hide hG
 clear hL hE hG
 obtain⟨E,hEe⟩:∃E,acheckF k j1 j2 j3 j4 V es=E:=⟨_,rfl⟩
 have HEe:=hide hEe
 clear hEe
 by_cases hE0:E=0
 rotate_left
 ·have hE1:(E == 0)=false:=by simpa using hE0
  have hE2:(E != 0)=true:=by simpa using hE0
  have HN0:=hide hE0
  clear hE0
  rw[HEe.out]
  go_enter Tryz.func22,Tryz.ntmps22
  go_upto_region 1 with fail
  obtain⟨u,hu⟩:∃u,((w.alloc (.cells #[.int .i64 V,.slice A L c] 24)).alloc (.cells #[.int .u8 k,.int .i64 j1,.int .i64 j2,.int .i64 j3,.int .i64 j4] 26)).alloc (.cells #[.int .i64 0,.slice none 0 0,.slice none 0 0,.slice none 0 0,.int .i64 0,.int .i64 0] 33)=u:=⟨_,rfl⟩
  rw[hu]
  have HU:=hide (allocs3 hu)
  clear hu
  have hzu:u.heap.size=w.heap.size+3:=HU.out.2.1
  obtain⟨c0,c1⟩:=zr2 HU.out.2.2.1
  obtain⟨d0,d1,d2,d3,d4⟩:=zr5 HU.out.2.2.2.1
  have hz0:w.heap.size<u.heap.size:=by omega
  have hz1:w.heap.size+1<u.heap.size:=by omega
  have hst:=qrstart_any u V A es L c HL.out hL9 ((HE.out.below HU.out.1 (Nat.le_refl _)).more HU.out.1.size) k j1 j2 j3 j4 HG.out
  rw[HEe.out] at hst
  have HST:=hide hst
  clear hst
  go_wp2_with fail
  refine HST.out.mono ?_
  rintro e y (⟨_,rfl,hb⟩ | ⟨h0,_⟩)
  rotate_left
  ·exact absurd h0 HN0.out
  have HB:=hide hb
  have syu:u.heap.size≤y.heap.size:=hb.size
  clear hb
  clear c0 c1 d0 d1 d2 d3 d4 hz0 hz1
  go_upto_region 2 with fail
  obtain⟨z0,hz0'⟩:∃q,y.alloc (.cells #[.int .i64 0,.slice none 0 0,.slice none 0 0,.slice none 0 0,.int .i64 0,.int .i64 0] 33)=q:=⟨_,rfl⟩
  have hS0:z0.heap[y.heap.size]?=some (.cells #[.int .i64 0,.slice none 0 0,.slice none 0 0,.slice none 0 0,.int .i64 0,.int .i64 0] 33):=by rw[←hz0'];exact heap_alloc_last _ _
  have hB0:Below y.heap.size y z0:=by rw[←hz0'];exact (Below.refl _ _).alloc (Nat.le_refl _) _
  have hsz:y.heap.size<z0.heap.size:=by rw[←hz0'];simp
  rw[hz0']
  have HRow:=hide ((hB0.block (w.heap.size+2) (by omega)).trans ((HB.out.block (w.heap.size+2) (by omega)).trans HU.out.2.2.2.2))
  have HBw:=hide ((HU.out.1.trans (HB.out.mono (by omega))).trans (hB0.mono (by omega)))
  clear hS0 hB0 hz0'
  have hRz:w.heap.size+1+1<z0.heap.size:=by omega
  obtain⟨q0,q1,q2,q3,q4,q5⟩:=zr6 HRow.out
  have zq:=zf HRow.out;have f0:=zq 0;have f1:=zq 1;have f2:=zq 2;have f3:=zq 3;have f4:=zq 4;have f5:=zq 5;clear zq
  go_wp2
  obtain⟨wf,hwf⟩:∃q,(((((z0.setCell ⟨w.heap.size+1+1,0,none⟩ (.int .i64 0)).setCell ⟨w.heap.size+1+1,1,none⟩ (.slice none 0 0)).setCell ⟨w.heap.size+1+1,2,none⟩ (.slice none 0 0)).setCell ⟨w.heap.size+1+1,3,none⟩ (.slice none 0 0)).setCell ⟨w.heap.size+1+1,4,none⟩ (.int .i64 0)).setCell ⟨w.heap.size+1+1,5,none⟩ (.int .i64 0)=q:=⟨_,rfl⟩
  have hF:=far6 z0 (w.heap.size+1+1) (w.heap.size+1+1) (.int .i64 0) (.slice none 0 0) (.slice none 0 0) (.slice none 0 0) (.int .i64 0) (.int .i64 0) HRow.out
  rw[hwf] at hF ⊢
  obtain⟨FF,HY⟩:=hF
  obtain⟨y0,y1,y2,y3,y4,y5⟩:=cells6 HY
  clear hwf HY
  exact bodyPost_ret (v:=.tuple #[.agg #[.int .i64 0,.slice none 0 0,.slice none 0 0,.slice none 0 0,.int .i64 0,.int .i64 0],.int .i64 E]) (by simp[results,Tryz.results22,go_sem,y0,y1,y2,y3,y4,y5]) rfl (.inl ⟨HN0.out,rfl,HBw.out.trans (FF.below (by omega) (by omega))⟩)
 subst hE0
 have HEe0:=HEe.out
 obtain⟨⟨hV1,hV,hEB⟩,hk,hj0,hj1⟩:=acheck_ok HEe0
 have hL5:=HG.out HEe0
 clear HEe0
 rw[show (acheckF k j1 j2 j3 j4 V es)=0 by rw[HEe.out]]
 obtain⟨V,rfl⟩:∃q:Nat,V=(q:Int):=⟨V.toNat,by omega⟩
 rw[show ((V:Int)).toNat=V from rfl]
 have hV:V≤512:=by omega
 have hr:=runN_spec (j2:=j2) (j3:=j3) (j4:=j4) (es:=es) (V:=V) hk hj0
 obtain⟨N,hNe⟩:∃q,runN k j1 j2 j3 j4 es V=q:=⟨_,rfl⟩
 rw[hNe] at hr ⊢
 have hN:N≤2000:=by have:=hr.2.1;omega
 have HT:=hide hr.1
 have HF:=hide hr.2.2
 clear hr hNe hk hj0 hj1
 go_enter Tryz.func22,Tryz.ntmps22
 go_upto_region 1 with fail
 obtain⟨u,hu⟩:∃u,((w.alloc (.cells #[.int .i64 (V:Int),.slice A L c] 24)).alloc (.cells #[.int .u8 k,.int .i64 j1,.int .i64 j2,.int .i64 j3,.int .i64 j4] 26)).alloc (.cells #[.int .i64 0,.slice none 0 0,.slice none 0 0,.slice none 0 0,.int .i64 0,.int .i64 0] 33)=u:=⟨_,rfl⟩
 rw[hu]
 have HU:=hide (allocs3 hu)
 clear hu
 have hzu:u.heap.size=w.heap.size+3:=HU.out.2.1
 obtain⟨c0,c1⟩:=zr2 HU.out.2.2.1
 obtain⟨d0,d1,d2,d3,d4⟩:=zr5 HU.out.2.2.2.1
 have hz0:w.heap.size<u.heap.size:=by omega
 have hz1:w.heap.size+1<u.heap.size:=by omega
 have hst:=qrstart_any u (V:Int) A es L c HL.out hL9 ((HE.out.below HU.out.1 (Nat.le_refl _)).more HU.out.1.size) k j1 j2 j3 j4 HG.out
 rw[HEe.out] at hst
 have HST:=hide hst
 clear hst
 go_wp2_with fail
 refine HST.out.mono ?_
 rw[show ((V:Int)).toNat=V from rfl]
 rintro e y (⟨h0,_⟩ | ⟨_,Av,Ac,Ai,cv,cc,ci,rfl,hin,hb,n1,n2,n3⟩)
 ·exact absurd rfl h0
 have HI2:=hide hin
 have HB:=hide hb
 have HN2:=hide (And.intro n1 (And.intro n2 n3))
 have syu:u.heap.size≤y.heap.size:=hb.size
 clear hin hb n1 n2 n3
 clear c0 c1 d0 d1 d2 d3 d4 hz0 hz1
 go_wp2
 obtain⟨z0,hz0'⟩:∃q,y.alloc (.cells #[.int .i64 (startV k j2 es V).st,.slice Av V cv,.slice Ac V cc,.slice Ai V ci,.int .i64 (startV k j2 es V).sm,.int .i64 (startV k j2 es V).mo] 33)=q:=⟨_,rfl⟩
 have hS0:z0.heap[y.heap.size]?=some (.cells #[.int .i64 (startV k j2 es V).st,.slice Av V cv,.slice Ac V cc,.slice Ai V ci,.int .i64 (startV k j2 es V).sm,.int .i64 (startV k j2 es V).mo] 33):=by rw[←hz0'];exact heap_alloc_last _ _
 have hB0:Below y.heap.size y z0:=by rw[←hz0'];exact (Below.refl _ _).alloc (Nat.le_refl _) _
 have hsz:y.heap.size<z0.heap.size:=by rw[←hz0'];simp
 rw[hz0']
 obtain⟨Sb,hSb⟩:∃q,y.heap.size=q:=⟨_,rfl⟩
 have HI0:=hide (HI2.out.next hB0)
 have GU:=hide ((hB0.block w.heap.size (by omega)).trans ((HB.out.block w.heap.size (by omega)).trans HU.out.2.2.1))
 have JU:=hide ((hB0.block (w.heap.size+1) (by omega)).trans ((HB.out.block (w.heap.size+1) (by omega)).trans HU.out.2.2.2.1))
 have RU:=hide ((hB0.block (w.heap.size+2) (by omega)).trans ((HB.out.block (w.heap.size+2) (by omega)).trans HU.out.2.2.2.2))
 have HBw:=hide ((HU.out.1.trans (HB.out.mono (by omega))).trans (hB0.mono (by omega)))
 rw[hSb] at hS0 hsz ⊢
 have HS0:=hide hS0
 have hSu:u.heap.size≤Sb:=by omega
 clear hS0 hB0 hz0' hSb
 go_loopw [20] (fun _ wr=>∃(n:Nat) (Av Ac Ai:Option Addr) (cv cc ci:Nat),n≤N∧Hid (wr.heap[Sb]?=some (.cells #[.int .i64 (atV k j2 j3 es V n).st,.slice Av V cv,.slice Ac V cc,.slice Ai V ci,.int .i64 (atV k j2 j3 es V n).sm,.int .i64 (atV k j2 j3 es V n).mo] 33))∧Hid (VIn wr (atV k j2 j3 es V n) Av Ac Ai)∧Hid (NewA u.heap.size Av∧NewA u.heap.size Ac∧NewA u.heap.size Ai)∧Hid (Below Sb z0 wr)) (fun _ wr=>N-stepAt Sb wr)
 case atStart=>exact⟨0,Av,Ac,Ai,cv,cc,ci,by omega,HS0,HI0,HN2,hide (Below.refl _ _)⟩
 case round=>
  obtain⟨n,Av,Ac,Ai,cv,cc,ci,hn,HS,HI,HN,HBr⟩:=hrel
  have srw:Sb≤wr.heap.size:=by have:=HBr.out.size;omega
  obtain⟨s0,s1,s2,s3,s4,s5⟩:=zr6 HS.out
  have hSw:Sb<wr.heap.size:=(Array.getElem?_eq_some_iff.1 HS.out).1
  have GW:=hide ((HBr.out.block w.heap.size (by omega)).trans GU.out)
  have JW:=hide ((HBr.out.block (w.heap.size+1) (by omega)).trans JU.out)
  by_cases hlt:n<N
  ·have hc:=rdone_any wr k j1 j2 j3 j4 (atV k j2 j3 es V n).st (atV k j2 j3 es V n).mo
   rw[show doneF k j1 j4 (atV k j2 j3 es V n).st (atV k j2 j3 es V n).mo=false from HF.out n hlt] at hc
   have HC:=hide hc
   clear hc
   obtain⟨c0,c1⟩:=zr2 GW.out
   obtain⟨d0,d1,d2,d3,d4⟩:=zr5 JW.out
   have hz0:w.heap.size<wr.heap.size:=by omega
   have hz1:w.heap.size+1<wr.heap.size:=by omega
   go_wp2_with fail
   refine HC.out.mono ?_
   rintro e z1 ⟨rfl,hz1'⟩
   have HZ1:=hide hz1'
   have sz1:wr.heap.size≤z1.heap.size:=hz1'.size
   clear c0 c1 d0 d1 d2 d3 d4 hz0 hz1
   clear hz1'
   clear s0 s1 s2 s3 s4 s5
   have HS1:=hide ((HZ1.out.block Sb hSw).trans HS.out)
   have hSz:Sb<z1.heap.size:=by omega
   have GZ:=hide ((HZ1.out.block w.heap.size (by omega)).trans GW.out)
   have JZ:=hide ((HZ1.out.block (w.heap.size+1) (by omega)).trans JW.out)
   obtain⟨s0,s1,s2,s3,s4,s5⟩:=zr6 HS1.out
   obtain⟨c0,c1⟩:=zr2 GZ.out
   obtain⟨d0,d1,d2,d3,d4⟩:=zr5 JZ.out
   have hz0:w.heap.size<z1.heap.size:=by omega
   have hz1:w.heap.size+1<z1.heap.size:=by omega
   have HEz:=hide ((HE.out.below (HBw.out.trans (HBr.out.mono (by omega))) (Nat.le_refl _)).more ((HBw.out.trans (HBr.out.mono (by omega))).size))
   go_wp2_with fail
   refine (qrnext_any z1 V A es L c HL.out hL5 ((Eds.below HEz.out HZ1.out (Nat.le_refl _)).more HZ1.out.size) k j1 j2 j3 j4 hV hEB (atV k j2 j3 es V n) (atV_ok (by omega) hEB n) Av Ac Ai cv cc ci (HI.out.next HZ1.out) (by rw[atV_st];omega) (by rw[atV_st];omega)).mono ?_
   rw[show nextV k j3 es V (atV k j2 j3 es V n)=atV k j2 j3 es V (n+1) from rfl]
   rintro e z2 ⟨Av2,Ac2,Ai2,cv2,cc2,ci2,rfl,hi2,hz2,n1,n2,n3⟩
   have HI2:=hide hi2
   have HZ2:=hide hz2
   have HN2:=hide (And.intro n1 (And.intro n2 n3))
   have sz2:z1.heap.size≤z2.heap.size:=hz2.size
   clear hi2 hz2 n1 n2 n3
   clear s0 s1 s2 s3 s4 s5
   clear c0 c1 d0 d1 d2 d3 d4 hz0 hz1
   have HS2:=hide ((HZ2.out.block Sb hSz).trans HS1.out)
   obtain⟨s0,s1,s2,s3,s4,s5⟩:=zr6 HS2.out
   have zq:=zf HS2.out;have f0:=zq 0;have f1:=zq 1;have f2:=zq 2;have f3:=zq 3;have f4:=zq 4;have f5:=zq 5;clear zq
   have hSy:Sb<z2.heap.size:=by omega
   go_wp2
   obtain⟨y4,hy4⟩:∃q,(((((z2.setCell ⟨Sb,0,none⟩ (.int .i64 (atV k j2 j3 es V (n+1)).st)).setCell ⟨Sb,1,none⟩ (.slice Av2 V cv2)).setCell ⟨Sb,2,none⟩ (.slice Ac2 V cc2)).setCell ⟨Sb,3,none⟩ (.slice Ai2 V ci2)).setCell ⟨Sb,4,none⟩ (.int .i64 (atV k j2 j3 es V (n+1)).sm)).setCell ⟨Sb,5,none⟩ (.int .i64 (atV k j2 j3 es V (n+1)).mo)=q:=⟨_,rfl⟩
   have hF:=far6 z2 Sb Sb (.int .i64 (atV k j2 j3 es V (n+1)).st) (.slice Av2 V cv2) (.slice Ac2 V cc2) (.slice Ai2 V ci2) (.int .i64 (atV k j2 j3 es V (n+1)).sm) (.int .i64 (atV k j2 j3 es V (n+1)).mo) HS2.out
   rw[hy4] at hF ⊢
   obtain⟨F4,hY⟩:=hF
   have HF4:=hide F4
   have HY4:=hide hY
   clear hy4 F4 hY
   clear s0 s1 s2 s3 s4 s5 f0 f1 f2 f3 f4 f5
   have HI4:Hid (VIn y4 (atV k j2 j3 es V (n+1)) Av2 Ac2 Ai2):=hide ⟨HF4.out.rd HI2.out.vals HN2.out.1 (by omega) (by omega),HF4.out.rd HI2.out.chg HN2.out.2.1 (by omega) (by omega),HF4.out.rd HI2.out.inb HN2.out.2.2 (by omega) (by omega)⟩
   have HB4:=hide (((HBr.out.trans (HZ1.out.mono srw)).trans (HZ2.out.mono (show Sb≤z1.heap.size by omega))).trans (HF4.out.below (Nat.le_refl _) (Nat.le_refl _)))
   have HN4:Hid (NewA u.heap.size Av2∧NewA u.heap.size Ac2∧NewA u.heap.size Ai2):=hide ⟨HN2.out.1.mono (by omega),HN2.out.2.1.mono (by omega),HN2.out.2.2.mono (by omega)⟩
   have hst:=stepAt_of (cell_of_row _ _ 0 _ _ _ HY4.out)
   have hst0:=stepAt_of (cell_of_row _ _ 0 _ _ _ HS.out)
   rw[atV_st] at hst hst0
   go_roundw
   case rel=>exact⟨n+1,Av2,Ac2,Ai2,cv2,cc2,ci2,by omega,HY4,HI4,HN4,HB4⟩
   case measure=>rw[hst,hst0];simp;omega
  obtain rfl:n=N:=by omega
  have hc:=rdone_any wr k j1 j2 j3 j4 (atV k j2 j3 es V n).st (atV k j2 j3 es V n).mo
  rw[show doneF k j1 j4 (atV k j2 j3 es V n).st (atV k j2 j3 es V n).mo=true from HT.out] at hc
  have HC:=hide hc
  clear hc
  obtain⟨c0,c1⟩:=zr2 GW.out
  obtain⟨d0,d1,d2,d3,d4⟩:=zr5 JW.out
  have hz0:w.heap.size<wr.heap.size:=by omega
  have hz1:w.heap.size+1<wr.heap.size:=by omega
  go_wp2_with fail
  refine HC.out.mono ?_
  rintro e z1 ⟨rfl,hz1'⟩
  have HZ1:=hide hz1'
  have sz1:wr.heap.size≤z1.heap.size:=hz1'.size
  clear c0 c1 d0 d1 d2 d3 d4 hz0 hz1
  clear hz1'
  clear s0 s1 s2 s3 s4 s5
  have HS1:=hide ((HZ1.out.block Sb hSw).trans HS.out)
  have hSz:Sb<z1.heap.size:=by omega
  have GZ:=hide ((HZ1.out.block w.heap.size (by omega)).trans GW.out)
  have JZ:=hide ((HZ1.out.block (w.heap.size+1) (by omega)).trans JW.out)
  obtain⟨s0,s1,s2,s3,s4,s5⟩:=zr6 HS1.out
  have HRow:=hide ((HZ1.out.block (w.heap.size+2) (by omega)).trans ((HBr.out.block (w.heap.size+2) (by omega)).trans RU.out))
  have HIz:=HI.out.next HZ1.out
  have HIZ:=hide HIz
  clear HIz
  have hRz:w.heap.size+1+1<z1.heap.size:=by omega
  obtain⟨q0,q1,q2,q3,q4,q5⟩:=zr6 HRow.out
  have zq:=zf HRow.out;have f0:=zq 0;have f1:=zq 1;have f2:=zq 2;have f3:=zq 3;have f4:=zq 4;have f5:=zq 5;clear zq
  go_wp2
  obtain⟨wf,hwf⟩:∃q,(((((z1.setCell ⟨w.heap.size+1+1,0,none⟩ (.int .i64 (atV k j2 j3 es V n).st)).setCell ⟨w.heap.size+1+1,1,none⟩ (.slice Av V cv)).setCell ⟨w.heap.size+1+1,2,none⟩ (.slice Ac V cc)).setCell ⟨w.heap.size+1+1,3,none⟩ (.slice Ai V ci)).setCell ⟨w.heap.size+1+1,4,none⟩ (.int .i64 (atV k j2 j3 es V n).sm)).setCell ⟨w.heap.size+1+1,5,none⟩ (.int .i64 (atV k j2 j3 es V n).mo)=q:=⟨_,rfl⟩
  have hF:=far6 z1 (w.heap.size+1+1) (w.heap.size+1+1) (.int .i64 (atV k j2 j3 es V n).st) (.slice Av V cv) (.slice Ac V cc) (.slice Ai V ci) (.int .i64 (atV k j2 j3 es V n).sm) (.int .i64 (atV k j2 j3 es V n).mo) HRow.out
  rw[hwf] at hF ⊢
  obtain⟨FF,HY⟩:=hF
  obtain⟨y0,y1,y2,y3,y4,y5⟩:=cells6 HY
  clear hwf HY
  exact bodyPost_ret (v:=.tuple #[.agg #[.int .i64 (atV k j2 j3 es V n).st,.slice Av V cv,.slice Ac V cc,.slice Ai V ci,.int .i64 (atV k j2 j3 es V n).sm,.int .i64 (atV k j2 j3 es V n).mo],.int .i64 0]) (by simp[results,Tryz.results22,go_sem,y0,y1,y2,y3,y4,y5]) rfl (.inr ⟨rfl,Av,Ac,Ai,cv,cc,ci,rfl,⟨FF.rd HIZ.out.vals HN.out.1 (by omega) (by omega),FF.rd HIZ.out.chg HN.out.2.1 (by omega) (by omega),FF.rd HIZ.out.inb HN.out.2.2 (by omega) (by omega)⟩,(HBw.out.trans ((HBr.out.mono (by omega)).trans (HZ1.out.mono (by omega)))).trans (FF.below (by omega) (by omega)),HN.out.1.mono (by omega),HN.out.2.1.mono (by omega),HN.out.2.2.mono (by omega)⟩)
end Go.Proofs.YtpgbjabifhjogaaGreat

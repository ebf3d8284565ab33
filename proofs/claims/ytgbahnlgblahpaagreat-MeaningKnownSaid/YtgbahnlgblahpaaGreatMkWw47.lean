/- Lemmas: Tl1, Nwd. -/
import Derived.Test.YtgbahnlgblahpaaGreatProg
import Derived.Deep.Strs
import Derived.Test.YtgbahnlgblahpaaGreatMkWw36
import Derived.Test.YtgbahnlgblahpaaGreatMkWw46
set_option linter.unusedVariables false
set_option linter.unusedSimpArgs false
set_option maxRecDepth 100000
set_option maxHeartbeats 16000000
namespace Go.Proofs.YtgbahnlgblahpaaGreat
open Go.RowKit Go.Shelf
attribute [local go_sem] Oper.semAt_some
theorem allocs5 {w u:World} {o0 o1 o2 o3 o4:Obj} (h:((((w.alloc o0).alloc o1).alloc o2).alloc o3).alloc o4=u):Below w.heap.size w u∧u.heap.size=w.heap.size+5∧u.heap[w.heap.size]?=some o0∧u.heap[w.heap.size+1]?=some o1∧u.heap[w.heap.size+2]?=some o2∧u.heap[w.heap.size+3]?=some o3∧u.heap[w.heap.size+4]?=some o4:=by
 subst h
 refine⟨(((((Below.refl _ _).alloc (Nat.le_refl _) _).alloc (by simp) _).alloc (by simp <;> omega) _).alloc (by simp <;> omega) _).alloc (by simp <;> omega) _,by simp,?_,?_,?_,?_,?_⟩
 ·exact (Below.heap_alloc _ _ _ (by simp <;> omega)).trans ((Below.heap_alloc _ _ _ (by simp <;> omega)).trans ((Below.heap_alloc _ _ _ (by simp <;> omega)).trans ((Below.heap_alloc _ _ _ (by simp)).trans (heap_alloc_last w _))))
 ·have h:=heap_alloc_last (w.alloc o0) o1
  rw[World.size_alloc] at h
  exact (Below.heap_alloc _ _ _ (by simp <;> omega)).trans ((Below.heap_alloc _ _ _ (by simp <;> omega)).trans ((Below.heap_alloc _ _ _ (by simp)).trans h))
 ·have h:=heap_alloc_last ((w.alloc o0).alloc o1) o2
  rw[World.size_alloc,World.size_alloc] at h
  exact (Below.heap_alloc _ _ _ (by simp <;> omega)).trans ((Below.heap_alloc _ _ _ (by simp)).trans h)
 ·have h:=heap_alloc_last (((w.alloc o0).alloc o1).alloc o2) o3
  rw[World.size_alloc,World.size_alloc,World.size_alloc] at h
  exact (Below.heap_alloc _ _ _ (by simp)).trans h
 have h:=heap_alloc_last ((((w.alloc o0).alloc o1).alloc o2).alloc o3) o4
 rw[World.size_alloc,World.size_alloc,World.size_alloc,World.size_alloc] at h
 exact h
theorem told_any (w:World) (V:Nat) (hV:V≤16) (A:Option Addr) (es:List Ed) (L c:Nat) (hL:es.length=L) (hL5:L≤100) (hE:Eds w w.heap.size A es) (hEB:edsB es) (k j1 j2 j3 j4 st sm mo:Int) (was vals:List Int) (chs:List Bool) (Av Ac Ai Aw:Option Addr) (cv cc ni ci cw:Nat)
  (hv:vals.length=V∧Rd w w.heap.size Av (i64s vals)∧∀x∈vals,i64V x) (hc:chs.length=V∧Rd w w.heap.size Ac (bools chs)) (hw:was.length=V∧Rd w w.heap.size Aw (i64s was)∧∀x∈was,i64V x) :
  Calls Tryz.prog 86 #[.agg #[.int .i64 (V:Int),.slice A L c],.agg #[.int .u8 k,.int .i64 j1,.int .i64 j2,.int .i64 j3,.int .i64 j4],.agg #[.int .i64 st,.slice Av V cv,.slice Ac V cc,.slice Ai ni ci,.int .i64 sm,.int .i64 mo],.slice Aw V cw] w (TellPost w k es was vals chs V st Av Ac cv cc):=by
 obtain⟨b0,b0i,b0z,b0s,b0b⟩:=info_parts (show (Tryz.prog.info? 135).map (fun i=>(i.zero,i.size,i.bytes))=some (some (.slice none 0 0),1,24) by kernel_rfl)
 obtain⟨a0,a0i,a0z,a0s,a0b⟩:=info_parts (show (Tryz.prog.info? 3).map (fun i=>(i.zero,i.size,i.bytes))=some (some (.int .i64 0),1,8) by kernel_rfl)
 have HL:=hide hL
 have HE:=hide hE
 have HV:=hide hv
 have HC:=hide hc
 have HW:=hide hw
 clear hL hE hv hc hw
 go_enter Tryz.func86,Tryz.ntmps86
 go_wp2
 obtain⟨u,hu⟩:∃u,((((w.alloc (.cells #[.int .i64 (V:Int),.slice A L c] 24)).alloc (.cells #[.int .u8 k,.int .i64 j1,.int .i64 j2,.int .i64 j3,.int .i64 j4] 26)).alloc (.cells #[.int .i64 st,.slice Av V cv,.slice Ac V cc,.slice Ai ni ci,.int .i64 sm,.int .i64 mo] 35)).alloc (.cells #[.int .i64 0,.slice none 0 0,.slice none 0 0,.slice none 0 0,.int .i64 0,.int .i64 0] 35)).alloc (.cells #[.int .i64 0,.int .i64 0] 154)=u:=⟨_,rfl⟩
 rw[hu]
 have HU:=hide (allocs5 hu)
 clear hu
 have hzu:u.heap.size=w.heap.size+5:=HU.out.2.1
 go_loopw [12,9,10,13] (fun v12 v9 v10 _ wr=>∃(i:Nat) (Ao Ar:Option Addr) (co cr:Nat),i≤V∧v12 = .int .i64 (i:Int)∧v9 = .slice Ao i co∧v10 = .slice Ar i cr∧Hid (wr.ownsRow u.heap.size 3 1 (.slice Ao i co) i (i64s (ownL i)))∧Hid (MRX u.heap.size wr (rowsV k es vals chs i) Ar i cr (Value.slice Ao i co).ownBlock)∧Hid (Below w.heap.size w wr)∧Hid (u.heap.size≤wr.heap.size∧(∀q,q<w.heap.size+4→wr.heap[q]?=u.heap[q]?)∧wr.heap[w.heap.size+4]?=some (.cells #[.int .i64 (totV k es was vals chs i).1,.int .i64 (totV k es was vals chs i).2] 154))) (fun v12 _ _ _ _=>V-(intOf v12).toNat)
 case atStart=>exact⟨0,none,none,0,0,by omega,rfl,rfl,rfl,hide (World.ownsRow_nil _ _ _ _),hide (MRX.zero _ _ _),hide HU.out.1,hide ⟨Nat.le_refl _,fun _ _=>rfl,HU.out.2.2.2.2.2.2⟩⟩
 case round=>
  obtain⟨i,Ao,Ar,co,cr,hi,rfl,rfl,rfl,HOw,HMr,HBr,HM⟩:=hrel
  have srw:u.heap.size≤wr.heap.size:=HM.out.1
  by_cases hlt:i<V
  ·have hI1:(i:Int)<(V:Int):=by omega
   have hI0:(0:Int)≤(i:Int):=by omega
   have hw0:w.heap.size<wr.heap.size:=by omega
   have G0r:=(HM.out.2.1 w.heap.size (by omega)).trans HU.out.2.2.1
   have G1r:=(HM.out.2.1 (w.heap.size+1) (by omega)).trans HU.out.2.2.2.1
   have G2r:=(HM.out.2.1 (w.heap.size+2) (by omega)).trans HU.out.2.2.2.2.1
   obtain⟨c0,c1⟩:=zr2 G0r
   clear G0r G1r G2r
   go_wp2_with fail
   refine (rout_any wr (V:Int) A es L c (i:Int) HL.out ((HE.out.below HBr.out (Nat.le_refl _)).more HBr.out.size) (by omega)).mono ?_
   rintro e z ⟨A1,c1',rfl,hz1,hz2⟩
   have HZ1:=hide hz1
   have HZ:=hide hz2
   have szz:wr.heap.size≤z.heap.size:=hz2.size
   clear hz1 hz2
   have HO1:=hide (own_below HOw.out HZ.out (fun g hg=>(HOw.out.lt g hg).2))
   go_wp2_with (at_builtin;refine wpList_app rfl (.tmp 24) (.tmp 26) 65 rfl u.heap.size 3 a0 (.int .i64 0) 1 8 Tryz.underlying65 a0i a0z a0s a0b rfl (by decide) (.slice Ao i co) i _ rfl (HO1.out.alloc _) (z.heap.size+1) (some ⟨z.heap.size,0,none⟩) 1 1 [.int .i64 (i:Int)] rfl rfl (Rd.new _ _ _ _) (by simp[Value.oneCell']) (by unfold maxLen;omega) (by omega) (by simp;omega) ?_)
   intro A2 c2 y own2 hg2 hat2
   have HM1:=hide ((HMr.out.next HZ.out).next ((Below.refl z.heap.size z).alloc (Nat.le_refl _) (.cells #[.int .i64 (i:Int)] 3)))
   have HM2:=hide (HM1.out.grownY hg2 (HM1.out.ne (HO1.out.alloc (.cells #[.int .i64 (i:Int)] 3)) (by decide)) (by rw[World.size_alloc];exact hat2))
   have HO2:Hid (y.ownsRow (w.heap.size+5) 3 1 (.slice A2 (i+1) c2) (i+1) (i64s (ownL (i+1)))):=hide (by rw[ownL_succ];simpa [i64s] using own2)
   have HB2:=hide (app_below ((HBr.out.trans (HZ.out.mono HBr.out.size)).alloc (Nat.le_trans HBr.out.size szz) (.cells #[.int .i64 (i:Int)] 3)) (HO1.out.alloc (.cells #[.int .i64 (i:Int)] 3)) hg2 (by rw[World.size_alloc];omega) (by omega))
   have HQ:=hide (show ∀q,q<w.heap.size+5→y.heap[q]?=wr.heap[q]? from fun q hq=>(hg2.block q (by rw[World.size_alloc];omega) (fun e=>by have:=(HOw.out.lt q e.symm).1;omega)).trans ((Below.heap_alloc z _ q (by omega)).trans (HZ.out.block q (by omega))))
   have HR1:=hide (own_apart ((HZ1.out.alloc (.cells #[.int .i64 (i:Int)] 3))) (HO1.out.alloc (.cells #[.int .i64 (i:Int)] 3)) (by decide) hg2)
   have syz:z.heap.size+1≤y.heap.size:=by have:=hg2.size;rwa [World.size_alloc] at this
   clear own2 hg2 hat2 HM1 HZ1 HO1 HOw HMr c0 c1
   have G0r:=(HQ.out w.heap.size (by omega)).trans ((HM.out.2.1 w.heap.size (by omega)).trans HU.out.2.2.1)
   have G1r:=(HQ.out (w.heap.size+1) (by omega)).trans ((HM.out.2.1 (w.heap.size+1) (by omega)).trans HU.out.2.2.2.1)
   have G2r:=(HQ.out (w.heap.size+2) (by omega)).trans ((HM.out.2.1 (w.heap.size+2) (by omega)).trans HU.out.2.2.2.2.1)
   obtain⟨c0,c1⟩:=zr2 G0r
   obtain⟨d0,d1,d2,d3,d4⟩:=zr5 G1r
   have s1:y.cell? ⟨w.heap.size+1+1,1,none⟩=some (.slice Av V cv):=cell_of_row _ _ 1 _ _ _ G2r
   have s2:y.cell? ⟨w.heap.size+1+1,2,none⟩=some (.slice Ac V cc):=cell_of_row _ _ 2 _ _ _ G2r
   clear G0r G1r G2r
   obtain⟨vx,hvx⟩:∃m,vals[i]?=some m:=⟨_,List.getElem?_eq_getElem (by rw[HV.out.1];exact hlt)⟩
   obtain⟨g3,o3,rfl,hg3,x0⟩:=HV.out.2.1.at1 (i64s_get hvx)
   have e0:y.cell? ⟨g3,o3+i,none⟩=some (.int .i64 vx):=(HB2.out.cell (p:=⟨g3,o3+i,none⟩) hg3).trans x0
   have hgx:g3<y.heap.size:=by have:=HB2.out.size;omega
   obtain⟨ch,hch⟩:∃m,chs[i]?=some m:=⟨_,List.getElem?_eq_getElem (by rw[HC.out.1];exact hlt)⟩
   obtain⟨g4,o4,rfl,hg4,x1⟩:=HC.out.2.at1 (show (bools chs)[i]?=some (.bool ch) by simp[bools,hch])
   have e1:y.cell? ⟨g4,o4+i,none⟩=some (.bool ch):=(HB2.out.cell (p:=⟨g4,o4+i,none⟩) hg4).trans x1
   have hgy:g4<y.heap.size:=by have:=HB2.out.size;omega
   have HRV:=hide (show rowV k es vals chs i=sndD k ch (i:Int) vx (fromF es i) (toF es i) by unfold rowV;rw[show vals.getD i 0=vx by simp[List.getD_eq_getElem?_getD,hvx],show chs.getD i false=ch by simp[List.getD_eq_getElem?_getD,hch]])
   have HVX:=hide (HV.out.2.2 vx (List.mem_of_getElem? hvx))
   have HGV:=hide (show vals.getD i 0=vx by simp[List.getD_eq_getElem?_getD,hvx])
   have HGC:=hide (show chs.getD i false=ch by simp[List.getD_eq_getElem?_getD,hch])
   have X0:=hide x0
   have X1:=hide x1
   have HWT1:=hide (fun e he=>HE.out.wt e (List.mem_filter.1 he).1:wt (fromF es i))
   have HWT2:=hide (fun e he=>HE.out.wt e (List.mem_filter.1 he).1:wt (toF es i))
   obtain⟨rv,hrv⟩:∃q,rowV k es vals chs i=q:=⟨_,rfl⟩
   have HRVs:=hide (HRV.out.symm.trans hrv)
   have HRVs2:=hide hrv.symm
   clear x0 x1 hvx hch
   have hb0:w.heap.size<y.heap.size:=by omega
   have hb1:w.heap.size+1<y.heap.size:=by omega
   have hb2:w.heap.size+1+1<y.heap.size:=by omega
   go_upto_region 9 with fail
   refine wpL_region (S:=Kept y) [19,20] (by kernel_rfl) (Kept.drew y) (fun hS0=>?_)
   refine tla 0 28 ?_
   refine tua [1,17,18,19,20] 1 29 ?_
   refine twa 2 30 ?_
   refine twa 3 31 ?_
   refine tua [4,6,7,17,18,19,20] 4 32 ?_
   refine twa 5 33 ?_
   refine twa 6 34 ?_
   refine tua [7,17,18,19,20] 7 35 ?_
   refine twa 8 36 ?_
   refine tua [9,11,12,17,18,19,20] 9 37 ?_
   refine twa 10 38 ?_
   refine twa 11 39 ?_
   refine tua [12,17,18,19,20] 12 40 ?_
   refine twa 13 41 ?_
   refine tua [14,16,17,18,19,20] 14 42 ?_
   refine twa 15 43 ?_
   refine cl 16 44 fun K hK=>?_
   go_simp
   refine (rback_any y.drew (V:Int) A es L c (i:Int) HL.out (((HE.out.below HB2.out (Nat.le_refl _)).more HB2.out.size)) (by omega)).mono ?_
   rintro e z2 ⟨A3,c3',rfl,hr2,hz2⟩
   have hS1:Kept y z2:=hS0.below (Nat.le_refl _) hz2
   have HZ2:Hid (Below y.heap.size y z2):=hide (below_undrew hz2)
   have hsy2:y.heap.size≤z2.heap.size:=hz2.size
   have HR2:=hide (Eds.of_rd (Rd.of_own hr2) HWT2.out)
   have HR1z:=hide (Eds.of_rd (Rd.of_own (own_below HR1.out HZ2.out (fun g hg=>(HR1.out.lt g hg).2))) HWT1.out)
   clear hr2 hz2
   go_wp2_with fail
   refine hK.out _ _ hS1 (fun hSn=>?_)
   clear hK K
   try simp only[zqd,zqe,zqf]
   refine cl 17 45 fun K hK=>?_
   go_simp
   refine (rsendN_any z2 k j1 j2 j3 j4 (i:Int) vx ch A1 A3 (fromF es i) (toF es i) _ c1' _ c3' rfl rfl HR1z.out HR2.out (by have:=fromF_le es i;have:=HL.out;omega) (by have:=toF_le es i;have:=HL.out;omega) HVX.out).mono ?_
   rw[HRVs.out]
   rintro e z3 ⟨A4,c4',rfl,hm4,hz3,hn4⟩
   have hS2:Kept y z3:=hS1.below hsy2 hz3
   have HZ3:=hide (HZ2.out.trans (hz3.mono hsy2))
   have hsy3:y.heap.size≤z3.heap.size:=HZ3.out.size
   have HM4:=hide hm4.rd
   have HN4:=hide (hn4.mono hsy2)
   clear hm4 hz3 hn4 HZ2 HR1z HR2
   go_wp2_with fail
   refine hK.out _ _ hS2 (fun hSn=>?_)
   clear hK K
   try simp only[zqd,zqe,zqf]
   refine cl 18 46 fun K hK=>?_
   go_simp
   have hS3:Kept y (z3.alloc (.cells #[.slice A4 rv.length c4'] 135)):=fun p hp=>(World.cell?_alloc_lt _ _ _ (Nat.lt_of_lt_of_le hp hsy3)).trans (hS2 p hp)
   refine hK.out _ _ hS3 (fun hSn=>?_)
   clear hK K
   try simp only[zqd,zqe,zqf]
   refine xl 19 fun K hK=>?_
   have HZ4:=hide (HZ3.out.alloc hsy3 (.cells #[.slice A4 rv.length c4'] 135))
   obtain⟨hs,ho,hl,hm⟩:=HM2.out.next HZ4.out
   have hhs:hs.length=i:=by have:=ho.1;omega
   have HLm:=hide hl
   have HMm:=hide hm
   have HOm:=hide ho
   clear hl hm ho
   refine op_app (.tmp 28) (.tmp 46) 132 rfl u.heap.size 135 b0 (.slice none 0 0) 1 24 Tryz.underlying132 b0i b0z b0s b0b rfl (by decide) (.slice Ar i cr) i hs rfl HOm.out (z3.heap.size+1) (some ⟨z3.heap.size,0,none⟩) 1 1 [.slice A4 rv.length c4'] rfl rfl (Rd.new _ _ _ _) (by simp[Value.oneCell']) (by unfold maxLen;omega) (by omega) (by simp;omega) ?_
   intro A5 c5 y3 own3 hg3 hat3
   have hrd:Rd (z3.alloc (.cells #[.slice A4 rv.length c4'] 135)) (z3.alloc (.cells #[.slice A4 rv.length c4'] 135)).heap.size A4 (msFlat rv):=HM4.out.next ((Below.refl z3.heap.size z3).alloc (Nat.le_refl _) _)
   have HM3:=hide (MRX.step HMm.out HLm.out hhs ⟨⟨RdY.new hrd HN4.out (fun g hg=>HM2.out.lt hg),RdY.new hrd HN4.out (fun g hg=>(HO2.out.lt g hg).2)⟩,HN4.out.mono (by omega)⟩ hg3 hat3 own3)
   have HO3:=hide (own_apart (own_below HO2.out HZ4.out (fun g hg=>(HO2.out.lt g hg).2)) HOm.out (by decide) hg3)
   have HB3:=hide (app_below (HB2.out.trans (HZ4.out.mono HB2.out.size)) HOm.out hg3 (by rw[World.size_alloc];omega) (by omega))
   have HQ3:=hide (show ∀q,q<w.heap.size+5→y3.heap[q]?=wr.heap[q]? from fun q hq=>(hg3.block q (by rw[World.size_alloc];omega) (fun e=>by have:=(HOm.out.lt q e.symm).1;omega)).trans ((HZ4.out.block q (by omega)).trans (HQ.out q hq)))
   have hsy4:z3.heap.size+1≤y3.heap.size:=by have:=hg3.size;rwa [World.size_alloc] at this
   clear hrd own3 hg3 hat3
   refine hK.out _ _ ?_
   clear hK K
   simp only[Act.put]
   try simp only[zqd,zqe,zqf]
   refine twa 20 10 ?_
   refine wpAnyL_done (by kernel_rfl) ?_ _
   clear hS0 hSn hS1 hS2 hS3
   clear c0 c1 d0 d1 d2 d3 d4 s1 s2 e0 e1
   have G0r:=(HQ3.out (w.heap.size) (by omega)).trans ((HM.out.2.1 (w.heap.size) (by omega)).trans HU.out.2.2.1)
   have G1r:=(HQ3.out (w.heap.size+1) (by omega)).trans ((HM.out.2.1 (w.heap.size+1) (by omega)).trans HU.out.2.2.2.1)
   have G2r:=(HQ3.out (w.heap.size+2) (by omega)).trans ((HM.out.2.1 (w.heap.size+2) (by omega)).trans HU.out.2.2.2.2.1)
   obtain⟨c0,c1⟩:=zr2 G0r
   obtain⟨d0,d1,d2,d3,d4⟩:=zr5 G1r
   have s1:y3.cell? ⟨w.heap.size+1+1,1,none⟩=some (.slice (some ⟨g3,o3,none⟩) V cv):=cell_of_row _ _ 1 _ _ _ G2r
   have s2:y3.cell? ⟨w.heap.size+1+1,2,none⟩=some (.slice (some ⟨g4,o4,none⟩) V cc):=cell_of_row _ _ 2 _ _ _ G2r
   clear G0r G1r G2r
   have hszy3:w.heap.size≤y3.heap.size:=HB3.out.size
   have T0:=(HQ3.out (w.heap.size+4) (by omega)).trans HM.out.2.2
   obtain⟨t0,t1⟩:=zr2 T0
   have e0:y3.cell? ⟨g3,o3+i,none⟩=some (.int .i64 vx):=(HB3.out.cell (p:=⟨g3,o3+i,none⟩) hg3).trans X0.out
   have e1:y3.cell? ⟨g4,o4+i,none⟩=some (.bool ch):=(HB3.out.cell (p:=⟨g4,o4+i,none⟩) hg4).trans X1.out
   obtain⟨wx,hwx⟩:∃m,was[i]?=some m:=⟨_,List.getElem?_eq_getElem (by rw[HW.out.1];exact hlt)⟩
   obtain⟨g5,o5,rfl,hg5,x2⟩:=HW.out.2.1.at1 (i64s_get hwx)
   have e2:y3.cell? ⟨g5,o5+i,none⟩=some (.int .i64 wx):=(HB3.out.cell (p:=⟨g5,o5+i,none⟩) hg5).trans x2
   have hgz:g5<y3.heap.size:=by omega
   have hgx:g3<y3.heap.size:=by omega
   have hgy:g4<y3.heap.size:=by omega
   have HTV:=hide (show totV k es was vals chs (i+1)=joinF k (totV k es was vals chs i).1 (totV k es was vals chs i).2 (partT k wx vx ch (fromF es i).length).1 (partT k wx vx ch (fromF es i).length).2 by rw[totV,show was.getD i 0=wx by simp[List.getD_eq_getElem?_getD,hwx],HGV.out,HGC.out])
   clear x2 hwx T0
   have hb4:w.heap.size+4<y3.heap.size:=by omega
   have hb1:w.heap.size+1<y3.heap.size:=by omega
   have hb2:w.heap.size+1+1<y3.heap.size:=by omega
   go_upto_region 10 with fail
   refine wpL_region (S:=Kept y3) [20] (by kernel_rfl) (Kept.drew y3) (fun hS0=>?_)
   refine tla 0 48 ?_
   refine tla 1 49 ?_
   refine tla 2 50 ?_
   refine tla 3 51 ?_
   refine tla 4 52 ?_
   refine tla 5 53 ?_
   refine tla 6 54 ?_
   refine tla 7 55 ?_
   refine tla 8 56 ?_
   refine tla 9 57 ?_
   refine tla 10 58 ?_
   refine tla 11 59 ?_
   refine tla 12 60 ?_
   refine tla 13 61 ?_
   refine tla 14 62 ?_
   refine tla 15 63 ?_
   refine tla 16 64 ?_
   refine tla 17 65 ?_
   refine cl 18 66 fun K hK=>?_
   go_simp
   refine (rpart_any y3.drew k j1 j2 j3 j4 wx vx ch A1 (fromF es i).length c1').mono ?_
   rintro e z5 ⟨rfl,hz5⟩
   have hS1:Kept y3 z5:=hS0.below (Nat.le_refl _) hz5
   have HZ5:Hid (Below y3.heap.size y3 z5):=hide (below_undrew hz5)
   have hsy5:y3.heap.size≤z5.heap.size:=hz5.size
   clear hz5
   go_wp2_with fail
   refine hK.out _ _ hS1 (fun hSn=>?_)
   clear hK K
   try simp only[zqd,zqe,zqf]
   refine cl 19 67 fun K hK=>?_
   go_simp
   refine (rjoin_any z5 k j1 j2 j3 j4 _ _ _ _).mono ?_
   rw[←HTV.out]
   rintro e z6 ⟨rfl,hz6⟩
   have hS2:Kept y3 z6:=hS1.below hsy5 hz6
   have HZ6:=hide (HZ5.out.trans (hz6.mono hsy5))
   have hsy6:y3.heap.size≤z6.heap.size:=HZ6.out.size
   clear hz6
   go_wp2_with fail
   refine hK.out _ _ hS2 (fun hSn=>?_)
   clear hK K
   try simp only[zqd,zqe,zqf]
   refine xl 20 fun K hK=>?_
   have T6:z6.heap[w.heap.size+4]?=some (.cells #[.int .i64 (totV k es was vals chs i).1,.int .i64 (totV k es was vals chs i).2] 154):=(HZ6.out.block _ (by omega)).trans ((HQ3.out (w.heap.size+4) (by omega)).trans HM.out.2.2)
   have zq:=zf T6;have f0:=zq 0;have f1:=zq 1;clear zq
   go_wp2_with fail
   refine hK.out _ _ ?_
   clear hK K
   try simp only[zqd,zqe,zqf]
   refine wpAnyL_done (by kernel_rfl) ?_ _
   clear hS0 hSn hS1 hS2 f0 f1 c0 c1 d0 d1 d2 d3 d4 s1 s2 e0 e1 e2 t0 t1
   obtain⟨y4,hy4⟩:∃q,(z6.setCell ⟨w.heap.size+1+1+1+1,0,none⟩ (.int .i64 (totV k es was vals chs (i+1)).1)).setCell ⟨w.heap.size+1+1+1+1,1,none⟩ (.int .i64 (totV k es was vals chs (i+1)).2)=q:=⟨_,rfl⟩
   have HM4:=hide ((((HM3.out.next HZ6.out).set (b:=w.heap.size+1+1+1+1) (j:=0) (u:=.int .i64 (totV k es was vals chs (i+1)).1) (by omega)).set (b:=w.heap.size+1+1+1+1) (j:=1) (u:=.int .i64 (totV k es was vals chs (i+1)).2) (by omega)))
   have HO4:=hide (own_set (b:=w.heap.size+1+1+1+1) (j:=1) (u:=.int .i64 (totV k es was vals chs (i+1)).2) (own_set (b:=w.heap.size+1+1+1+1) (j:=0) (u:=.int .i64 (totV k es was vals chs (i+1)).1) (own_below HO3.out HZ6.out (fun g hg=>(HO3.out.lt g hg).2)) (by omega)) (by omega))
   have HB4:=hide (((HB3.out.trans (HZ6.out.mono HB3.out.size)).setCell (p:=⟨w.heap.size+1+1+1+1,0,none⟩) (by show w.heap.size≤w.heap.size+1+1+1+1;omega) (.int .i64 (totV k es was vals chs (i+1)).1)).setCell (p:=⟨w.heap.size+1+1+1+1,1,none⟩) (by show w.heap.size≤w.heap.size+1+1+1+1;omega) (.int .i64 (totV k es was vals chs (i+1)).2))
   have HT4:=hide (set_pair (x0:=.int .i64 (totV k es was vals chs (i+1)).1) (x1:=.int .i64 (totV k es was vals chs (i+1)).2) T6)
   have HQ4:=hide (show ∀q,q<w.heap.size+4→((z6.setCell ⟨w.heap.size+1+1+1+1,0,none⟩ (.int .i64 (totV k es was vals chs (i+1)).1)).setCell ⟨w.heap.size+1+1+1+1,1,none⟩ (.int .i64 (totV k es was vals chs (i+1)).2)).heap[q]?=u.heap[q]? from fun q hq=>(Below.heap_setCell _ _ _ q (by show q≠w.heap.size+1+1+1+1;omega)).trans ((Below.heap_setCell _ _ _ q (by show q≠w.heap.size+1+1+1+1;omega)).trans ((HZ6.out.block q (by omega)).trans ((HQ3.out q (by omega)).trans (HM.out.2.1 q hq)))))
   have HS4:=hide (show u.heap.size≤((z6.setCell ⟨w.heap.size+1+1+1+1,0,none⟩ (.int .i64 (totV k es was vals chs (i+1)).1)).setCell ⟨w.heap.size+1+1+1+1,1,none⟩ (.int .i64 (totV k es was vals chs (i+1)).2)).heap.size by rw[World.size_setCell,World.size_setCell];omega)
   rw[hy4] at HM4 HO4 HB4 HT4 HQ4 HS4 ⊢
   rw[HRVs2.out,←rowsV_succ] at HM4
   rw[←hzu] at HO4
   clear hy4 T6
   go_wp2
   go_roundw
   case rel=>exact⟨i+1,A2,A5,c2,c5,by omega,by go_num,rfl,rfl,HO4,HM4,HB4,hide ⟨HS4.out,HQ4.out,HT4.out⟩⟩
   case measure=>simp[intOf];omega
  obtain rfl:i=V:=by omega
  have G0r:=(HM.out.2.1 (w.heap.size) (by omega)).trans HU.out.2.2.1
  have G1r:=(HM.out.2.1 (w.heap.size+1) (by omega)).trans HU.out.2.2.2.1
  have G2r:=(HM.out.2.1 (w.heap.size+2) (by omega)).trans HU.out.2.2.2.2.1
  have G3r:=(HM.out.2.1 (w.heap.size+3) (by omega)).trans HU.out.2.2.2.2.2.1
  have HG2:=hide G2r
  have HG3:=hide G3r
  have HT:=hide HM.out.2.2
  obtain⟨d0,d1,d2,d3,d4⟩:=zr5 G1r
  have c0:wr.cell? ⟨w.heap.size,0,none⟩=some (.int .i64 (i:Int)):=cell_of_row _ _ 0 _ _ _ G0r
  have hw0:w.heap.size<wr.heap.size:=by omega
  clear G0r G1r G2r G3r
  have hw1:w.heap.size+1<wr.heap.size:=by omega
  go_wp2_with fail
  refine (rmerge_any wr k j1 j2 j3 j4 Ao Ar (ownL i) (rowsV k es vals chs i) i i co cr (ownL_len i) (by omega) (Rd.of_own HOw.out) (rowsV_len k es vals chs i) (by omega) HMr.out.rows (by have h:=rowsV_flat k es vals chs i;rw[HL.out] at h;have h2:i*(2*L)≤16*(2*100):=Nat.mul_le_mul (by omega) (by omega);omega)).mono ?_
  rintro e z ⟨Ai2,ci2,he,hrd,hbz,hnew⟩
  rw[show (mails k (rowsV k es vals chs i).flatten (ownL i)).length=i by simp[mails,ownL]] at he
  subst he
  have HRD:=hide hrd
  have HBZ:=hide hbz
  have HNW0:=hide hnew
  have HNW:=hide (hnew.mono (show w.heap.size≤wr.heap.size by omega))
  have szz:wr.heap.size≤z.heap.size:=hbz.size
  clear hrd hbz hnew c0 d0 d1 d2 d3 d4
  have z2:=(HBZ.out.block (w.heap.size+2) (by omega)).trans HG2.out
  have z3:=(HBZ.out.block (w.heap.size+3) (by omega)).trans HG3.out
  have z4:=(HBZ.out.block (w.heap.size+4) (by omega)).trans HT.out
  obtain⟨s0,s1,s2,s3,s4,s5⟩:=zr6 z2
  have zq:=zf z2;have f3:=zq 3;have f4:=zq 4;have f5:=zq 5;clear zq
  have zq:=zf z3;have r0:=zq 0;have r1:=zq 1;have r2:=zq 2;have r3:=zq 3;have r4:=zq 4;have r5:=zq 5;clear zq
  obtain⟨t0,t1⟩:=zr2 z4
  obtain⟨q0,q1,q2,q3,q4,q5⟩:=zr6 z3
  have Z3:=hide z3
  clear z2 z3 z4
  go_wp2
  obtain⟨wf,hwf⟩:∃q,((((((((z.setCell ⟨w.heap.size+1+1,3,none⟩ (.slice Ai2 i ci2)).setCell ⟨w.heap.size+1+1,4,none⟩ (.int .i64 (totV k es was vals chs i).1)).setCell ⟨w.heap.size+1+1,5,none⟩ (.int .i64 (totV k es was vals chs i).2)).setCell ⟨w.heap.size+1+1+1,0,none⟩ (.int .i64 st)).setCell ⟨w.heap.size+1+1+1,1,none⟩ (.slice Av i cv)).setCell ⟨w.heap.size+1+1+1,2,none⟩ (.slice Ac i cc)).setCell ⟨w.heap.size+1+1+1,3,none⟩ (.slice Ai2 i ci2)).setCell ⟨w.heap.size+1+1+1,4,none⟩ (.int .i64 (totV k es was vals chs i).1)).setCell ⟨w.heap.size+1+1+1,5,none⟩ (.int .i64 (totV k es was vals chs i).2)=q:=⟨_,rfl⟩
  have hF9:=far9 z (w.heap.size+1+1) (w.heap.size+1+1+1) (.slice Ai2 i ci2) (.int .i64 (totV k es was vals chs i).1) (.int .i64 (totV k es was vals chs i).2) (.int .i64 st) (.slice Av i cv) (.slice Ac i cc) (.slice Ai2 i ci2) (.int .i64 (totV k es was vals chs i).1) (.int .i64 (totV k es was vals chs i).2) (by omega) Z3.out
  rw[hwf] at hF9 ⊢
  obtain⟨HF,HR⟩:=hF9
  obtain⟨y0,y1,y2,y3,y4,y5⟩:=cells6 HR
  clear hwf HR
  exact bodyPost_ret (v:=.agg #[.int .i64 st,.slice Av i cv,.slice Ac i cc,.slice Ai2 i ci2,.int .i64 (totV k es was vals chs i).1,.int .i64 (totV k es was vals chs i).2]) (by simp[results,Tryz.results86,go_sem,y0,y1,y2,y3,y4,y5]) rfl ⟨Ai2,ci2,rfl,HF.rd HRD.out HNW0.out (by omega) (by omega),(HBr.out.trans (HBZ.out.mono HBr.out.size)).trans (HF.below (by omega) (by omega)),HNW.out⟩
end Go.Proofs.YtgbahnlgblahpaaGreat
namespace Go.Proofs.YtgbahnlgblahpaaGreat
open Go.RowKit
def StPostD (w:World) (V:Nat) (s:SV) (e:Ending) (w':World):Prop:=
 ∃Av Ac Ai cv cc ci,e = .returned (.agg #[.int .i64 s.st,.slice Av V cv,.slice Ac V cc,.slice Ai V ci,.int .i64 s.sm,.int .i64 s.mo])∧VIn w' s Av Ac Ai∧Below w.heap.size w w'∧NewA w.heap.size Av∧NewA w.heap.size Ac∧NewA w.heap.size Ai
def TillPostD (w:World) (E:Int) (V:Nat) (s:SV) (e:Ending) (w':World):Prop:=
 (E≠0∧e = .returned (.tuple #[.agg #[.int .i64 0,.slice none 0 0,.slice none 0 0,.slice none 0 0,.int .i64 0,.int .i64 0],.int .i64 E])∧Below w.heap.size w w') ∨
 (E=0∧∃Av Ac Ai cv cc ci,e = .returned (.tuple #[.agg #[.int .i64 s.st,.slice Av V cv,.slice Ac V cc,.slice Ai V ci,.int .i64 s.sm,.int .i64 s.mo],.int .i64 0])∧VIn w' s Av Ac Ai∧Below w.heap.size w w'∧NewA w.heap.size Av∧NewA w.heap.size Ac∧NewA w.heap.size Ai)
end Go.Proofs.YtgbahnlgblahpaaGreat

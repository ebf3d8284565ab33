/- Lemmas: Mst, Mti, Pat. -/
import Derived.Test.YtpojjmbalgmcoaaGreatProg
import Derived.Lib.Hide
import Derived.WalkSpells
import Derived.WalkMore
import Derived.IntWalk
import Derived.Deep.Strs
import Derived.Test.YtpojjmbalgmcoaaGreatStWw51
set_option linter.unusedVariables false
set_option linter.unusedSimpArgs false
set_option maxRecDepth 100000
set_option maxHeartbeats 16000000
namespace Go.Proofs.YtpojjmbalgmcoaaGreat
open Go.RowKit Go.Shelf
attribute [local go_sem] Oper.semAt_some
theorem allocs2 {w u:World} {o0 o1:Obj} (h:(w.alloc o0).alloc o1=u):Below w.heap.size w u∧u.heap.size=w.heap.size+2∧u.heap[w.heap.size]?=some o0∧u.heap[w.heap.size+1]?=some o1:=by
 subst h
 refine⟨((Below.refl _ _).alloc (Nat.le_refl _) _).alloc (by simp) _,by simp,?_,?_⟩
 ·exact (Below.heap_alloc _ _ _ (by simp)).trans (heap_alloc_last w _)
 have h:=heap_alloc_last (w.alloc o0) o1
 rw[World.size_alloc] at h
 exact h
theorem startVals_succ (k j2:Int) (V n:Nat):startVals k j2 V (n+1)=startVals k j2 V n ++ [(startA k j2 V (n:Int)).1]:=by simp[startVals,List.range_succ]
theorem startChs_succ (k j2:Int) (V n:Nat):startChs k j2 V (n+1)=startChs k j2 V n ++ [(startA k j2 V (n:Int)).2]:=by simp[startChs,List.range_succ]
theorem nextVals_succ (k j3:Int) (V:Nat) (s:SV) (n:Nat):nextVals k j3 V s (n+1)=nextVals k j3 V s n ++ [(compV k j3 V s n).1]:=by simp[nextVals,List.range_succ]
theorem nextChs_succ (k j3:Int) (V:Nat) (s:SV) (n:Nat):nextChs k j3 V s (n+1)=nextChs k j3 V s n ++ [(compV k j3 V s n).2]:=by simp[nextChs,List.range_succ]
def StPost (w:World) (V:Nat) (s:SV) (e:Ending) (w':World):Prop:=
 ∃Av Ac Ai cv cc ci,e = .returned (.agg #[.int .i64 s.st,.slice Av V cv,.slice Ac V cc,.slice Ai V ci,.int .i64 s.sm,.int .i64 s.mo])∧VIn w' s Av Ac Ai∧Below w.heap.size w w'∧NewA w.heap.size Av∧NewA w.heap.size Ac∧NewA w.heap.size Ai
theorem mstart_any (w:World) (m V:Nat) (A:Option Addr) (L c:Nat) (k j1 j2 j3 j4:Int) (es:List Ed) (xs:List VX) (Aof Aow:Option Addr) (cof cow:Nat) (hMH:MHas m V A L c k j1 j2 j3 j4 es xs Aof Aow cof cow w) (hV:V≤512) (hL:es.length=L) (hL5:L≤80) (hEB:edsB es)  :
  Calls Tryz.prog 42 #[.pointer (some ⟨m,0,none⟩)] w (StPost w V (startV k j2 es V)):=by
 obtain⟨a0,a0i,a0z,a0s,a0b⟩:=info_parts (show (Tryz.prog.info? 2).map (fun i=>(i.zero,i.size,i.bytes))=some (some (.int .i64 0),1,8) by kernel_rfl)
 obtain⟨b0,b0i,b0z,b0s,b0b⟩:=info_parts (show (Tryz.prog.info? 4).map (fun i=>(i.zero,i.size,i.bytes))=some (some (.bool false),1,1) by kernel_rfl)
 have hm0:=hMH.lt
 have HMH:=hide hMH
 have HL:=hide hL
 clear hL hMH
 go_enter Tryz.func42,Tryz.ntmps42
 go_upto_region 2 with fail
 obtain⟨u,hu⟩:∃u,(w.alloc (.cells #[.int .i64 0,.slice none 0 0,.slice none 0 0,.slice none 0 0,.int .i64 0,.int .i64 0] 33)).alloc (.cells #[.int .i64 0,.slice none 0 0,.slice none 0 0,.slice none 0 0,.int .i64 0,.int .i64 0] 33)=u:=⟨_,rfl⟩
 rw[hu]
 have HU:=hide (allocs2 hu)
 clear hu
 have hzu:u.heap.size=w.heap.size+2:=HU.out.2.1
 have a1:u.cell? ⟨m,8,none⟩=some (.slice Aow V cow):=cell_of_row _ _ 8 _ _ _ ((HU.out.1.block m hm0).trans HMH.out.mem)
 have hmu:m<u.heap.size:=by omega
 go_wp2
 clear a1 hmu
 go_loopw [13,5,6,7] (fun vi _ _ _ wr=>∃(i:Nat) (Av:Option Addr) (cv:Nat) (Ac:Option Addr) (cc:Nat),i≤V∧vi = .int .i64 (i:Int)∧Hid (wr.ownsRow u.heap.size 2 1 (.slice Av i cv) i (i64s (startVals k j2 V i)))∧Hid (wr.ownsRow u.heap.size 4 1 (.slice Ac i cc) i (bools (startChs k j2 V i)))∧Hid (Below w.heap.size w wr)∧Hid ((u.heap.size≤wr.heap.size∧wr.heap[w.heap.size+1]?=some (.cells #[.int .i64 0,.slice Av i cv,.slice Ac i cc,.slice none 0 0,.int .i64 0,.int .i64 0] 33))∧∀q,q<u.heap.size→q≠w.heap.size+1→wr.heap[q]?=u.heap[q]?)) (fun vi _ _ _ _=>V-(intOf vi).toNat)
 case atStart=>exact⟨0,none,0,none,0,by omega,rfl,hide (World.ownsRow_nil _ _ _ _),hide (World.ownsRow_nil _ _ _ _),hide HU.out.1,hide ⟨⟨Nat.le_refl _,HU.out.2.2.2⟩,fun _ _ _=>rfl⟩⟩
 case round=>
  obtain⟨i,Av,cv,Ac,cc,hi,rfl,HVo,HCo,HBr,HM⟩:=hrel
  have srw:u.heap.size≤wr.heap.size:=HM.out.1.1
  by_cases hlt:i<V
  ·have hI1:(i:Int)<(V:Int):=by omega
   have hI0:(0:Int)≤(i:Int):=by omega
   have HB_wr:=HBr
   have GM:=(HB_wr.out.block m hm0).trans HMH.out.mem
   have d0:wr.cell? ⟨m,2,none⟩=some (.int .u8 k):=cell_of_row _ _ 2 _ _ _ GM
   have d1:wr.cell? ⟨m,3,none⟩=some (.int .i64 j1):=cell_of_row _ _ 3 _ _ _ GM
   have d2:wr.cell? ⟨m,4,none⟩=some (.int .i64 j2):=cell_of_row _ _ 4 _ _ _ GM
   have d3:wr.cell? ⟨m,5,none⟩=some (.int .i64 j3):=cell_of_row _ _ 5 _ _ _ GM
   have d4:wr.cell? ⟨m,6,none⟩=some (.int .i64 j4):=cell_of_row _ _ 6 _ _ _ GM
   have dV:wr.cell? ⟨m,0,none⟩=some (.int .i64 (V:Int)):=cell_of_row _ _ 0 _ _ _ GM
   clear GM
   obtain⟨g3,o3,rfl,hg3,x0⟩:=HMH.out.own.at1 (i64s_get (show (ownL V)[i]?=some (i:Int) by simp[ownL,hlt]))
   have e0:=(HBr.out.cell (p:=⟨g3,o3+i,none⟩) hg3).trans x0
   clear x0
   have hz3:g3<wr.heap.size:=by omega
   have hmr:m<wr.heap.size:=by omega
   go_upto_region 5 with fail
   refine wp_region_held_drew (S:=Kept wr) (by kernel_rfl) (Kept.drew wr) (fun hS0=>?_)
   refine tka 0 18 ?_
   refine tka 1 19 ?_
   refine tka 2 20 ?_
   refine tka 3 21 ?_
   refine tka 4 22 ?_
   refine tka 5 23 ?_
   refine tka 6 24 ?_
   refine tka 7 25 ?_
   refine tka 8 26 ?_
   refine tka 9 27 ?_
   refine ck 10 28 fun K hK=>?_
   go_simp
   refine (astart_any wr.drew k j1 j2 j3 j4 (V:Int) (i:Int)).mono ?_
   rintro e z ⟨rfl,hz⟩
   have hS1:Kept wr z:=hS0.below (Nat.le_refl _) hz
   have HZ:Hid (Below wr.heap.size wr z):=hide (below_undrew hz)
   have szz:wr.heap.size≤z.heap.size:=hz.size
   clear hz
   go_wp2_with fail
   refine hK.out _ _ hS1 (fun hSn=>?_)
   clear hK K
   try simp only[zqd,zqe,zqf]
   refine tka 11 17 ?_
   refine tka 12 29 ?_
   refine tka 13 30 ?_
   refine tka 14 6 ?_
   refine tka 15 7 ?_
   refine wpAnyH_done (by kernel_rfl) ?_ _
   clear hS0 hSn hS1 d0 d1 d2 d3 d4 dV e0 hz3
   have HV1:=hide (own_below HVo.out HZ.out (fun g hg=>(HVo.out.lt g hg).2))
   have HC1:=hide (own_below HCo.out HZ.out (fun g hg=>(HCo.out.lt g hg).2))
   have HB1:=hide (HBr.out.trans (HZ.out.mono HBr.out.size))
   have HR1:=hide ((HZ.out.block (w.heap.size+1) (by omega)).trans HM.out.1.2)
   have p1:z.cell? ⟨w.heap.size+1,1,none⟩=some (.slice Av i cv):=cell_of_row _ _ 1 _ _ _ HR1.out
   go_wp2_with (at_builtin;refine wpList_app rfl (.tmp 32) (.tmp 34) 29 rfl u.heap.size 2 a0 (.int .i64 0) 1 8 Tryz.underlying29 a0i a0z a0s a0b rfl (by decide) (.slice Av i cv) i _ rfl (HV1.out.alloc _) (z.heap.size+1) (some ⟨z.heap.size,0,none⟩) 1 1 [.int .i64 (startA k j2 (V:Int) (i:Int)).1] rfl rfl (Rd.new _ _ _ _) (by simp[Value.oneCell']) (by unfold maxLen;omega) (by omega) (by simp;omega) ?_)
   intro A2 c2 y own2 hg2 hat2
   have HO_y:Hid (y.ownsRow u.heap.size 2 1 (.slice A2 (i+1) c2) (i+1) (i64s (startVals k j2 V (i+1)))):=hide (by rw[startVals_succ];simpa [i64s,bools,hzu] using own2)
   have HP_y:=hide (own_apart (HC1.out.alloc (.cells #[.int .i64 (startA k j2 (V:Int) (i:Int)).1] 2)) (HV1.out.alloc (.cells #[.int .i64 (startA k j2 (V:Int) (i:Int)).1] 2)) (by decide) hg2)
   have HB_y:=hide (app_below (HB1.out.alloc HB1.out.size (.cells #[.int .i64 (startA k j2 (V:Int) (i:Int)).1] 2)) (HV1.out.alloc (.cells #[.int .i64 (startA k j2 (V:Int) (i:Int)).1] 2)) hg2 (by rw[World.size_alloc];have:=HB1.out.size;omega) (by omega))
   have HQ_y:=hide (show ∀q,q<u.heap.size→y.heap[q]?=z.heap[q]? from fun q hq=>(hg2.block q (by rw[World.size_alloc];omega) (fun e=>by have:=(HV1.out.lt q e.symm).1;omega)).trans (Below.heap_alloc z _ q (by omega)))
   have hs_y:z.heap.size+1≤y.heap.size:=by have:=hg2.size;rwa [World.size_alloc] at this
   clear own2 hg2 hat2
   clear p1
   have q1:y.heap[w.heap.size+1]?=_:=(HQ_y.out (w.heap.size+1) (by omega)).trans HR1.out
   have p1:y.cell? ⟨w.heap.size+1,1,none⟩=some (.slice Av i cv):=cell_of_row _ _ 1 _ _ _ q1
   have f1:=zf q1 1
   have HR2:=hide q1
   clear q1
   go_upto_region 7 with fail
   clear p1 f1
   obtain⟨y1,hy1⟩:∃q,y.setCell ⟨w.heap.size+1,1,none⟩ (.slice A2 (i+1) c2)=q:=⟨_,rfl⟩
   have HV2:=hide (own_set (b:=w.heap.size+1) (j:=1) (u:=.slice A2 (i+1) c2) HO_y.out (by omega))
   have HC2:=hide (own_set (b:=w.heap.size+1) (j:=1) (u:=.slice A2 (i+1) c2) HP_y.out (by omega))
   have HB2:=hide (HB_y.out.setCell (p:=⟨w.heap.size+1,1,none⟩) (by show w.heap.size≤w.heap.size+1;omega) (.slice A2 (i+1) c2))
   have HR3:=hide (set_at1 (x:=.slice A2 (i+1) c2) HR2.out)
   have hs1:=World.size_setCell y ⟨w.heap.size+1,1,none⟩ (.slice A2 (i+1) c2)
   have HQ2:=hide (show ∀q,q<u.heap.size→q≠w.heap.size+1→(y.setCell ⟨w.heap.size+1,1,none⟩ (.slice A2 (i+1) c2)).heap[q]?=z.heap[q]? from fun q hq hn=>(Below.heap_setCell _ _ _ q hn).trans (HQ_y.out q hq))
   rw[hy1] at HV2 HC2 HB2 HR3 hs1 HQ2 ⊢
   have hs2:z.heap.size+1≤y1.heap.size:=by omega
   clear hy1 hs1
   have p2:y1.cell? ⟨w.heap.size+1,2,none⟩=some (.slice Ac i cc):=cell_of_row _ _ 2 _ _ _ HR3.out
   go_wp2_with (at_builtin;refine wpList_app rfl (.tmp 38) (.tmp 40) 30 rfl u.heap.size 4 b0 (.bool false) 1 1 Tryz.underlying30 b0i b0z b0s b0b rfl (by decide) (.slice Ac i cc) i _ rfl (HC2.out.alloc _) (y1.heap.size+1) (some ⟨y1.heap.size,0,none⟩) 1 1 [.bool (startA k j2 (V:Int) (i:Int)).2] rfl rfl (Rd.new _ _ _ _) (by simp[Value.oneCell']) (by unfold maxLen;omega) (by omega) (by simp;omega) ?_)
   intro A3 c3 y2 own2 hg2 hat2
   have HO_y2:Hid (y2.ownsRow u.heap.size 4 1 (.slice A3 (i+1) c3) (i+1) (bools (startChs k j2 V (i+1)))):=hide (by rw[startChs_succ];simpa [i64s,bools,hzu] using own2)
   have HP_y2:=hide (own_apart (HV2.out.alloc (.cells #[.bool (startA k j2 (V:Int) (i:Int)).2] 4)) (HC2.out.alloc (.cells #[.bool (startA k j2 (V:Int) (i:Int)).2] 4)) (by decide) hg2)
   have HB_y2:=hide (app_below (HB2.out.alloc HB2.out.size (.cells #[.bool (startA k j2 (V:Int) (i:Int)).2] 4)) (HC2.out.alloc (.cells #[.bool (startA k j2 (V:Int) (i:Int)).2] 4)) hg2 (by rw[World.size_alloc];have:=HB2.out.size;omega) (by omega))
   have HQ_y2:=hide (show ∀q,q<u.heap.size→y2.heap[q]?=y1.heap[q]? from fun q hq=>(hg2.block q (by rw[World.size_alloc];omega) (fun e=>by have:=(HC2.out.lt q e.symm).1;omega)).trans (Below.heap_alloc y1 _ q (by omega)))
   have hs_y2:y1.heap.size+1≤y2.heap.size:=by have:=hg2.size;rwa [World.size_alloc] at this
   clear own2 hg2 hat2
   clear p2
   have q1:y2.heap[w.heap.size+1]?=_:=(HQ_y2.out (w.heap.size+1) (by omega)).trans HR3.out
   have p2:y2.cell? ⟨w.heap.size+1,2,none⟩=some (.slice Ac i cc):=cell_of_row _ _ 2 _ _ _ q1
   have f2:=zf q1 2
   have HR4:=hide q1
   clear q1
   go_upto_region 8 with fail
   clear p2 f2
   obtain⟨y3,hy3⟩:∃q,y2.setCell ⟨w.heap.size+1,2,none⟩ (.slice A3 (i+1) c3)=q:=⟨_,rfl⟩
   have HC3:=hide (own_set (b:=w.heap.size+1) (j:=2) (u:=.slice A3 (i+1) c3) HO_y2.out (by omega))
   have HV3:=hide (own_set (b:=w.heap.size+1) (j:=2) (u:=.slice A3 (i+1) c3) HP_y2.out (by omega))
   have HB3:=hide (HB_y2.out.setCell (p:=⟨w.heap.size+1,2,none⟩) (by show w.heap.size≤w.heap.size+1;omega) (.slice A3 (i+1) c3))
   have HR5:=hide (set_at2 (x:=.slice A3 (i+1) c3) HR4.out)
   have hs3:=World.size_setCell y2 ⟨w.heap.size+1,2,none⟩ (.slice A3 (i+1) c3)
   have HQ3:=hide (show ∀q,q<u.heap.size→q≠w.heap.size+1→(y2.setCell ⟨w.heap.size+1,2,none⟩ (.slice A3 (i+1) c3)).heap[q]?=u.heap[q]? from fun q hq hn=>(Below.heap_setCell _ _ _ q hn).trans ((HQ_y2.out q hq).trans ((HQ2.out q hq hn).trans ((HZ.out.block q (by omega)).trans (HM.out.2 q hq hn)))))
   rw[hy3] at HV3 HC3 HB3 HR5 hs3 HQ3 ⊢
   have hs4:u.heap.size≤y3.heap.size:=by omega
   clear hy3 hs3
   go_wp2
   go_roundw
   case rel=>exact⟨i+1,A2,c2,A3,c3,by omega,by go_num,HV3,HC3,HB3,hide ⟨⟨hs4,HR5.out⟩,HQ3.out⟩⟩
   case measure=>simp[intOf];omega
  obtain rfl:i=V:=by omega
  have q1:=HM.out.1.2
  obtain⟨s0,s1,s2,s3,s4,s5⟩:=zr6 q1
  have HR:=hide q1
  clear q1
  go_wp2_with fail
  refine (mtell_any wr m i A L c k j1 j2 j3 j4 es xs Aof Aow cof cow (HMH.out.next HBr.out) (by omega) HL.out (by omega) hEB (0) 0 0 (startVals k j2 i i) (startVals k j2 i i) (startChs k j2 i i) Av Ac none Av cv cc 0 0 cv ⟨by simp[startVals],Rd.of_own HVo.out,startVals_bd (by omega)⟩ ⟨by simp[startChs],Rd.of_own HCo.out⟩ ⟨by simp[startVals],Rd.of_own HVo.out,startVals_bd (by omega)⟩).mono ?_
  rintro e z ⟨Ai2,ci2,rfl,hrd,hbz,hnew⟩
  have HRD:=hide hrd
  have HBZ:=hide hbz
  have HNW:=hide hnew
  have szz:wr.heap.size≤z.heap.size:=hbz.size
  clear hrd hbz hnew s0 s1 s2 s3 s4 s5
  have HR0:=hide ((HBZ.out.block (w.heap.size) (by omega)).trans ((HM.out.2 (w.heap.size) (by omega) (by omega)).trans HU.out.2.2.1))
  have HVz:=hide ((Rd.of_own HVo.out).next HBZ.out)
  have HCz:=hide ((Rd.of_own HCo.out).next HBZ.out)
  have HNV:=hide (own_new HVo.out (Nat.le_refl _))
  have HNC:=hide (own_new HCo.out (Nat.le_refl _))
  have HRz:=hide ((HBZ.out.block (w.heap.size+1) (by omega)).trans HR.out)
  obtain⟨q0,q1,q2,q3,q4,q5⟩:=zr6 HRz.out
  have zq:=zf HRz.out;have f0:=zq 0;have f1:=zq 1;have f2:=zq 2;have f3:=zq 3;have f4:=zq 4;have f5:=zq 5;clear zq
  have zz1:w.heap.size+1<z.heap.size:=by omega
  go_upto_region 10 with fail
  obtain⟨w2,hw2⟩:∃q,(((((z.setCell ⟨w.heap.size+1,0,none⟩ (.int .i64 0)).setCell ⟨w.heap.size+1,1,none⟩ (.slice Av i cv)).setCell ⟨w.heap.size+1,2,none⟩ (.slice Ac i cc)).setCell ⟨w.heap.size+1,3,none⟩ (.slice Ai2 i ci2)).setCell ⟨w.heap.size+1,4,none⟩ (.int .i64 (totV k es (startVals k j2 i i) (startVals k j2 i i) (startChs k j2 i i) i).1)).setCell ⟨w.heap.size+1,5,none⟩ (.int .i64 (totV k es (startVals k j2 i i) (startVals k j2 i i) (startChs k j2 i i) i).2)=q:=⟨_,rfl⟩
  have hF:=far6 z (w.heap.size+1) (w.heap.size+1) (.int .i64 0) (.slice Av i cv) (.slice Ac i cc) (.slice Ai2 i ci2) (.int .i64 (totV k es (startVals k j2 i i) (startVals k j2 i i) (startChs k j2 i i) i).1) (.int .i64 (totV k es (startVals k j2 i i) (startVals k j2 i i) (startChs k j2 i i) i).2) HRz.out
  rw[hw2] at hF ⊢
  clear hw2 q0 f0 q1 f1 q2 f2 q3 f3 q4 f4 q5 f5
  obtain⟨F1,hY⟩:=hF
  have HY1:=hide hY
  have HF1:=hide F1
  clear hY F1
  have q5:w2.cell? ⟨w.heap.size+1,5,none⟩=some (.int .i64 (totV k es (startVals k j2 i i) (startVals k j2 i i) (startChs k j2 i i) i).2):=cell_of_row _ _ 5 _ _ _ HY1.out
  have f5:=zf HY1.out 5
  go_upto_region 11 with fail
  obtain⟨w3,hw3⟩:∃q,w2.setCell ⟨w.heap.size+1,5,none⟩ (.int .i64 0)=q:=⟨_,rfl⟩
  have hF:=FarS.set HF1.out (p:=⟨w.heap.size+1,5,none⟩) (Or.inl rfl) (.int .i64 0)
  have hY:=set_at5 (x:=.int .i64 0) HY1.out
  rw[hw3] at hF hY ⊢
  have HF2:=hide hF
  have HY2:=hide hY
  clear hw3 hF hY q5 f5
  have HR3:=hide ((HF2.out.block w.heap.size (by omega) (by omega)).trans HR0.out)
  have sw3:w3.heap.size=z.heap.size:=HF2.out.size
  have zz2:w.heap.size+1<w3.heap.size:=by omega
  clear sw3
  obtain⟨s0,s1,s2,s3,s4,s5⟩:=zr6 HY2.out
  obtain⟨q0,q1,q2,q3,q4,q5⟩:=zr6 HR3.out
  have zq:=zf HR3.out;have f0:=zq 0;have f1:=zq 1;have f2:=zq 2;have f3:=zq 3;have f4:=zq 4;have f5:=zq 5;clear zq
  go_wp2
  obtain⟨wf,hwf⟩:∃q,(((((w3.setCell ⟨w.heap.size,0,none⟩ (.int .i64 0)).setCell ⟨w.heap.size,1,none⟩ (.slice Av i cv)).setCell ⟨w.heap.size,2,none⟩ (.slice Ac i cc)).setCell ⟨w.heap.size,3,none⟩ (.slice Ai2 i ci2)).setCell ⟨w.heap.size,4,none⟩ (.int .i64 (totV k es (startVals k j2 i i) (startVals k j2 i i) (startChs k j2 i i) i).1)).setCell ⟨w.heap.size,5,none⟩ (.int .i64 0)=q:=⟨_,rfl⟩
  have hF:=far6 w3 (w.heap.size) (w.heap.size) (.int .i64 0) (.slice Av i cv) (.slice Ac i cc) (.slice Ai2 i ci2) (.int .i64 (totV k es (startVals k j2 i i) (startVals k j2 i i) (startChs k j2 i i) i).1) (.int .i64 0) HR3.out
  rw[hwf] at hF ⊢
  obtain⟨FF,HY⟩:=hF
  obtain⟨y0,y1,y2,y3,y4,y5⟩:=cells6 HY
  clear hwf HY
  exact bodyPost_ret (v:=.agg #[.int .i64 0,.slice Av i cv,.slice Ac i cc,.slice Ai2 i ci2,.int .i64 (totV k es (startVals k j2 i i) (startVals k j2 i i) (startChs k j2 i i) i).1,.int .i64 0]) (by simp[results,Tryz.results42,go_sem,y0,y1,y2,y3,y4,y5]) rfl ⟨Av,Ac,Ai2,cv,cc,ci2,rfl,⟨FF.rd (HF2.out.rd HVz.out HNV.out (by omega) (by omega)) HNV.out (by omega) (by omega),FF.rd (HF2.out.rd HCz.out HNC.out (by omega) (by omega)) HNC.out (by omega) (by omega),FF.rd (HF2.out.rd HRD.out HNW.out (by omega) (by omega)) HNW.out (by omega) (by omega)⟩,(HBr.out.trans (HBZ.out.mono HBr.out.size)).trans ((HF2.out.below (by omega) (by omega)).trans (FF.below (by omega) (by omega))),HNV.out.mono (by omega),HNC.out.mono (by omega),HNW.out.mono (by omega)⟩
theorem mnext_any (w:World) (m V:Nat) (A:Option Addr) (L c:Nat) (k j1 j2 j3 j4:Int) (es:List Ed) (xs:List VX) (Aof Aow:Option Addr) (cof cow:Nat) (hMH:MHas m V A L c k j1 j2 j3 j4 es xs Aof Aow cof cow w) (hV:V≤512) (hL:es.length=L) (hL5:L≤80) (hEB:edsB es) (s:SV) (hok:OkS V s) (Aw Ac0 Ai:Option Addr) (cw cc0 ci:Nat) (hin:VIn w s Aw Ac0 Ai) (hs0:0≤s.st) (hs1:s.st≤2000) :
  Calls Tryz.prog 43 #[.pointer (some ⟨m,0,none⟩),.agg #[.int .i64 s.st,.slice Aw V cw,.slice Ac0 V cc0,.slice Ai V ci,.int .i64 s.sm,.int .i64 s.mo]] w (StPost w V (nextV k j3 es V s)):=by
 obtain⟨a0,a0i,a0z,a0s,a0b⟩:=info_parts (show (Tryz.prog.info? 2).map (fun i=>(i.zero,i.size,i.bytes))=some (some (.int .i64 0),1,8) by kernel_rfl)
 obtain⟨b0,b0i,b0z,b0s,b0b⟩:=info_parts (show (Tryz.prog.info? 4).map (fun i=>(i.zero,i.size,i.bytes))=some (some (.bool false),1,1) by kernel_rfl)
 have hm0:=hMH.lt
 have HMH:=hide hMH
 have HL:=hide hL
 have HOK:=hide hok
 have HVI:=hide hin
 have hst:IntKind.i64.wrap (s.st+1)=s.st+1:=IntWalk.i64_in _ (by omega)
 clear hL hMH hok hin
 go_enter Tryz.func43,Tryz.ntmps43
 go_upto_region 2 with fail
 obtain⟨u,hu⟩:∃u,((w.alloc (.cells #[.int .i64 s.st,.slice Aw V cw,.slice Ac0 V cc0,.slice Ai V ci,.int .i64 s.sm,.int .i64 s.mo] 33)).alloc (.cells #[.int .i64 0,.slice none 0 0,.slice none 0 0,.slice none 0 0,.int .i64 0,.int .i64 0] 33)).alloc (.cells #[.int .i64 (s.st+1),.slice none 0 0,.slice none 0 0,.slice none 0 0,.int .i64 0,.int .i64 0] 33)=u:=⟨_,rfl⟩
 rw[hu]
 have HU:=hide (allocs3 hu)
 clear hu hst
 have hzu:u.heap.size=w.heap.size+3:=HU.out.2.1
 have a1:u.cell? ⟨w.heap.size,1,none⟩=some (.slice Aw V cw):=cell_of_row _ _ 1 _ _ _ HU.out.2.2.1
 have hmu:w.heap.size<u.heap.size:=by omega
 go_wp2
 clear a1 hmu
 go_loopw [17,6,7,8,9] (fun vi _ _ _ _ wr=>∃(i:Nat) (Av:Option Addr) (cv:Nat) (Ac:Option Addr) (cc:Nat),i≤V∧vi = .int .i64 (i:Int)∧Hid (wr.ownsRow u.heap.size 2 1 (.slice Av i cv) i (i64s (nextVals k j3 V s i)))∧Hid (wr.ownsRow u.heap.size 4 1 (.slice Ac i cc) i (bools (nextChs k j3 V s i)))∧Hid (Below w.heap.size w wr)∧Hid ((u.heap.size≤wr.heap.size∧wr.heap[w.heap.size+2]?=some (.cells #[.int .i64 (s.st+1),.slice Av i cv,.slice Ac i cc,.slice none 0 0,.int .i64 0,.int .i64 0] 33))∧∀q,q<u.heap.size→q≠w.heap.size+2→wr.heap[q]?=u.heap[q]?)) (fun vi _ _ _ _ _=>V-(intOf vi).toNat)
 case atStart=>exact⟨0,none,0,none,0,by omega,rfl,hide (World.ownsRow_nil _ _ _ _),hide (World.ownsRow_nil _ _ _ _),hide HU.out.1,hide ⟨⟨Nat.le_refl _,HU.out.2.2.2.2⟩,fun _ _ _=>rfl⟩⟩
 case round=>
  obtain⟨i,Av,cv,Ac,cc,hi,rfl,HVo,HCo,HBr,HM⟩:=hrel
  have srw:u.heap.size≤wr.heap.size:=HM.out.1.1
  by_cases hlt:i<V
  ·have hI1:(i:Int)<(V:Int):=by omega
   have hI0:(0:Int)≤(i:Int):=by omega
   have HB_wr:=HBr
   have GM:=(HB_wr.out.block m hm0).trans HMH.out.mem
   have d0:wr.cell? ⟨m,2,none⟩=some (.int .u8 k):=cell_of_row _ _ 2 _ _ _ GM
   have d1:wr.cell? ⟨m,3,none⟩=some (.int .i64 j1):=cell_of_row _ _ 3 _ _ _ GM
   have d2:wr.cell? ⟨m,4,none⟩=some (.int .i64 j2):=cell_of_row _ _ 4 _ _ _ GM
   have d3:wr.cell? ⟨m,5,none⟩=some (.int .i64 j3):=cell_of_row _ _ 5 _ _ _ GM
   have d4:wr.cell? ⟨m,6,none⟩=some (.int .i64 j4):=cell_of_row _ _ 6 _ _ _ GM
   have dV:wr.cell? ⟨m,0,none⟩=some (.int .i64 (V:Int)):=cell_of_row _ _ 0 _ _ _ GM
   clear GM
   obtain⟨vx,hvx⟩:∃y,s.vals[i]?=some y:=⟨_,List.getElem?_eq_getElem (by rw[HOK.out.lv];exact hlt)⟩
   obtain⟨g3,o3,rfl,hg3,x0⟩:=HVI.out.vals.at1 (i64s_get hvx)
   have e0:=(HBr.out.cell (p:=⟨g3,o3+i,none⟩) hg3).trans x0
   obtain⟨mm,hmm⟩:∃y,s.inb[i]?=some y:=⟨_,List.getElem?_eq_getElem (by rw[HOK.out.li];exact hlt)⟩
   obtain⟨g4,o4,rfl,hg4,x1,x2⟩:=HVI.out.inb.ml hmm
   have HMX:=hide (HOK.out.bi mm (List.mem_of_getElem? hmm))
   obtain⟨mh,mx⟩:=mm
   dsimp only at x1 x2 HMX
   have e1:wr.cell? ⟨g4,o4+i*2,none⟩=some (.bool mh):=(HBr.out.cell (p:=⟨g4,o4+i*2,none⟩) hg4).trans x1
   have e2:wr.cell? ⟨g4,o4+i*2+1,none⟩=some (.int .i64 mx):=(HBr.out.cell (p:=⟨g4,o4+i*2+1,none⟩) hg4).trans x2
   have HCV:=hide (show compK k (V:Int) vx mh mx s.sm j3=compV k j3 V s i by unfold compV;rw[show s.vals.getD i 0=vx by simp[List.getD_eq_getElem?_getD,hvx],show s.inb.getD i (false,0)=(mh,mx) by simp[List.getD_eq_getElem?_getD,hmm]])
   clear x0 x1 x2 hvx hmm
   have G0:=(HM.out.2 w.heap.size (by omega) (by omega)).trans HU.out.2.2.1
   have a3:wr.cell? ⟨w.heap.size,3,none⟩=some (.slice (some ⟨g4,o4,none⟩) V ci):=cell_of_row _ _ 3 _ _ _ G0
   have a4:wr.cell? ⟨w.heap.size,4,none⟩=some (.int .i64 s.sm):=cell_of_row _ _ 4 _ _ _ G0
   clear G0
   have hz1:w.heap.size<wr.heap.size:=by omega
   have hz3:g3<wr.heap.size:=by omega
   have hz4:g4<wr.heap.size:=by omega
   have hmr:m<wr.heap.size:=by omega
   go_upto_region 5 with fail
   refine wp_region_held_drew (S:=Kept wr) (by kernel_rfl) (Kept.drew wr) (fun hS0=>?_)
   refine tka 0 23 ?_
   refine tka 1 24 ?_
   refine tka 2 25 ?_
   refine tka 3 26 ?_
   refine tka 4 27 ?_
   refine tka 5 28 ?_
   refine tka 6 29 ?_
   refine tka 7 30 ?_
   refine tka 8 31 ?_
   refine tka 9 32 ?_
   refine tka 10 33 ?_
   refine tka 11 34 ?_
   refine tka 12 35 ?_
   refine tka 13 36 ?_
   refine tka 14 37 ?_
   refine tka 15 38 ?_
   refine tka 16 39 ?_
   refine ck 17 40 fun K hK=>?_
   go_simp
   refine (acomp_any wr.drew k j1 j2 j3 j4 (V:Int) vx mh mx s.sm (by omega) HMX.out.2 HOK.out.bs.2).mono ?_
   rw[HCV.out]
   rintro e z ⟨rfl,hz⟩
   have hS1:Kept wr z:=hS0.below (Nat.le_refl _) hz
   have HZ:Hid (Below wr.heap.size wr z):=hide (below_undrew hz)
   have szz:wr.heap.size≤z.heap.size:=hz.size
   clear hz
   go_wp2_with fail
   refine hK.out _ _ hS1 (fun hSn=>?_)
   clear hK K
   try simp only[zqd,zqe,zqf]
   refine tka 18 22 ?_
   refine tka 19 41 ?_
   refine tka 20 42 ?_
   refine tka 21 8 ?_
   refine tka 22 9 ?_
   refine wpAnyH_done (by kernel_rfl) ?_ _
   clear hS0 hSn hS1 d0 d1 d2 d3 d4 dV e0 e1 e2 a3 a4 hz1 hz3 hz4
   have HV1:=hide (own_below HVo.out HZ.out (fun g hg=>(HVo.out.lt g hg).2))
   have HC1:=hide (own_below HCo.out HZ.out (fun g hg=>(HCo.out.lt g hg).2))
   have HB1:=hide (HBr.out.trans (HZ.out.mono HBr.out.size))
   have HR1:=hide ((HZ.out.block (w.heap.size+2) (by omega)).trans HM.out.1.2)
   have p1:z.cell? ⟨w.heap.size+1+1,1,none⟩=some (.slice Av i cv):=cell_of_row _ _ 1 _ _ _ HR1.out
   go_wp2_with (at_builtin;refine wpList_app rfl (.tmp 44) (.tmp 46) 29 rfl u.heap.size 2 a0 (.int .i64 0) 1 8 Tryz.underlying29 a0i a0z a0s a0b rfl (by decide) (.slice Av i cv) i _ rfl (HV1.out.alloc _) (z.heap.size+1) (some ⟨z.heap.size,0,none⟩) 1 1 [.int .i64 (compV k j3 V s i).1] rfl rfl (Rd.new _ _ _ _) (by simp[Value.oneCell']) (by unfold maxLen;omega) (by omega) (by simp;omega) ?_)
   intro A2 c2 y own2 hg2 hat2
   have HO_y:Hid (y.ownsRow u.heap.size 2 1 (.slice A2 (i+1) c2) (i+1) (i64s (nextVals k j3 V s (i+1)))):=hide (by rw[nextVals_succ];simpa [i64s,bools,hzu] using own2)
   have HP_y:=hide (own_apart (HC1.out.alloc (.cells #[.int .i64 (compV k j3 V s i).1] 2)) (HV1.out.alloc (.cells #[.int .i64 (compV k j3 V s i).1] 2)) (by decide) hg2)
   have HB_y:=hide (app_below (HB1.out.alloc HB1.out.size (.cells #[.int .i64 (compV k j3 V s i).1] 2)) (HV1.out.alloc (.cells #[.int .i64 (compV k j3 V s i).1] 2)) hg2 (by rw[World.size_alloc];have:=HB1.out.size;omega) (by omega))
   have HQ_y:=hide (show ∀q,q<u.heap.size→y.heap[q]?=z.heap[q]? from fun q hq=>(hg2.block q (by rw[World.size_alloc];omega) (fun e=>by have:=(HV1.out.lt q e.symm).1;omega)).trans (Below.heap_alloc z _ q (by omega)))
   have hs_y:z.heap.size+1≤y.heap.size:=by have:=hg2.size;rwa [World.size_alloc] at this
   clear own2 hg2 hat2
   clear p1
   have q1:y.heap[w.heap.size+2]?=_:=(HQ_y.out (w.heap.size+2) (by omega)).trans HR1.out
   have p1:y.cell? ⟨w.heap.size+1+1,1,none⟩=some (.slice Av i cv):=cell_of_row _ _ 1 _ _ _ q1
   have f1:=zf q1 1
   have HR2:=hide q1
   clear q1
   go_upto_region 7 with fail
   clear p1 f1
   obtain⟨y1,hy1⟩:∃q,y.setCell ⟨w.heap.size+1+1,1,none⟩ (.slice A2 (i+1) c2)=q:=⟨_,rfl⟩
   have HV2:=hide (own_set (b:=w.heap.size+1+1) (j:=1) (u:=.slice A2 (i+1) c2) HO_y.out (by omega))
   have HC2:=hide (own_set (b:=w.heap.size+1+1) (j:=1) (u:=.slice A2 (i+1) c2) HP_y.out (by omega))
   have HB2:=hide (HB_y.out.setCell (p:=⟨w.heap.size+1+1,1,none⟩) (by show w.heap.size≤w.heap.size+1+1;omega) (.slice A2 (i+1) c2))
   have HR3:=hide (set_at1 (x:=.slice A2 (i+1) c2) HR2.out)
   have hs1:=World.size_setCell y ⟨w.heap.size+1+1,1,none⟩ (.slice A2 (i+1) c2)
   have HQ2:=hide (show ∀q,q<u.heap.size→q≠w.heap.size+1+1→(y.setCell ⟨w.heap.size+1+1,1,none⟩ (.slice A2 (i+1) c2)).heap[q]?=z.heap[q]? from fun q hq hn=>(Below.heap_setCell _ _ _ q hn).trans (HQ_y.out q hq))
   rw[hy1] at HV2 HC2 HB2 HR3 hs1 HQ2 ⊢
   have hs2:z.heap.size+1≤y1.heap.size:=by omega
   clear hy1 hs1
   have p2:y1.cell? ⟨w.heap.size+1+1,2,none⟩=some (.slice Ac i cc):=cell_of_row _ _ 2 _ _ _ HR3.out
   go_wp2_with (at_builtin;refine wpList_app rfl (.tmp 50) (.tmp 52) 30 rfl u.heap.size 4 b0 (.bool false) 1 1 Tryz.underlying30 b0i b0z b0s b0b rfl (by decide) (.slice Ac i cc) i _ rfl (HC2.out.alloc _) (y1.heap.size+1) (some ⟨y1.heap.size,0,none⟩) 1 1 [.bool (compV k j3 V s i).2] rfl rfl (Rd.new _ _ _ _) (by simp[Value.oneCell']) (by unfold maxLen;omega) (by omega) (by simp;omega) ?_)
   intro A3 c3 y2 own2 hg2 hat2
   have HO_y2:Hid (y2.ownsRow u.heap.size 4 1 (.slice A3 (i+1) c3) (i+1) (bools (nextChs k j3 V s (i+1)))):=hide (by rw[nextChs_succ];simpa [i64s,bools,hzu] using own2)
   have HP_y2:=hide (own_apart (HV2.out.alloc (.cells #[.bool (compV k j3 V s i).2] 4)) (HC2.out.alloc (.cells #[.bool (compV k j3 V s i).2] 4)) (by decide) hg2)
   have HB_y2:=hide (app_below (HB2.out.alloc HB2.out.size (.cells #[.bool (compV k j3 V s i).2] 4)) (HC2.out.alloc (.cells #[.bool (compV k j3 V s i).2] 4)) hg2 (by rw[World.size_alloc];have:=HB2.out.size;omega) (by omega))
   have HQ_y2:=hide (show ∀q,q<u.heap.size→y2.heap[q]?=y1.heap[q]? from fun q hq=>(hg2.block q (by rw[World.size_alloc];omega) (fun e=>by have:=(HC2.out.lt q e.symm).1;omega)).trans (Below.heap_alloc y1 _ q (by omega)))
   have hs_y2:y1.heap.size+1≤y2.heap.size:=by have:=hg2.size;rwa [World.size_alloc] at this
   clear own2 hg2 hat2
   clear p2
   have q1:y2.heap[w.heap.size+2]?=_:=(HQ_y2.out (w.heap.size+2) (by omega)).trans HR3.out
   have p2:y2.cell? ⟨w.heap.size+1+1,2,none⟩=some (.slice Ac i cc):=cell_of_row _ _ 2 _ _ _ q1
   have f2:=zf q1 2
   have HR4:=hide q1
   clear q1
   go_upto_region 8 with fail
   clear p2 f2
   obtain⟨y3,hy3⟩:∃q,y2.setCell ⟨w.heap.size+1+1,2,none⟩ (.slice A3 (i+1) c3)=q:=⟨_,rfl⟩
   have HC3:=hide (own_set (b:=w.heap.size+1+1) (j:=2) (u:=.slice A3 (i+1) c3) HO_y2.out (by omega))
   have HV3:=hide (own_set (b:=w.heap.size+1+1) (j:=2) (u:=.slice A3 (i+1) c3) HP_y2.out (by omega))
   have HB3:=hide (HB_y2.out.setCell (p:=⟨w.heap.size+1+1,2,none⟩) (by show w.heap.size≤w.heap.size+1+1;omega) (.slice A3 (i+1) c3))
   have HR5:=hide (set_at2 (x:=.slice A3 (i+1) c3) HR4.out)
   have hs3:=World.size_setCell y2 ⟨w.heap.size+1+1,2,none⟩ (.slice A3 (i+1) c3)
   have HQ3:=hide (show ∀q,q<u.heap.size→q≠w.heap.size+1+1→(y2.setCell ⟨w.heap.size+1+1,2,none⟩ (.slice A3 (i+1) c3)).heap[q]?=u.heap[q]? from fun q hq hn=>(Below.heap_setCell _ _ _ q hn).trans ((HQ_y2.out q hq).trans ((HQ2.out q hq hn).trans ((HZ.out.block q (by omega)).trans (HM.out.2 q hq hn)))))
   rw[hy3] at HV3 HC3 HB3 HR5 hs3 HQ3 ⊢
   have hs4:u.heap.size≤y3.heap.size:=by omega
   clear hy3 hs3
   go_wp2
   go_roundw
   case rel=>exact⟨i+1,A2,c2,A3,c3,by omega,by go_num,HV3,HC3,HB3,hide ⟨⟨hs4,HR5.out⟩,HQ3.out⟩⟩
   case measure=>simp[intOf];omega
  obtain rfl:i=V:=by omega
  have q1:=HM.out.1.2
  obtain⟨s0,s1,s2,s3,s4,s5⟩:=zr6 q1
  have G0:=(HM.out.2 w.heap.size (by omega) (by omega)).trans HU.out.2.2.1
  have a1:wr.cell? ⟨w.heap.size,1,none⟩=some (.slice Aw i cw):=cell_of_row _ _ 1 _ _ _ G0
  clear G0
  have HWv:=hide (HVI.out.vals.next HBr.out)
  have HR:=hide q1
  clear q1
  go_wp2_with fail
  refine (mtell_any wr m i A L c k j1 j2 j3 j4 es xs Aof Aow cof cow (HMH.out.next HBr.out) (by omega) HL.out (by omega) hEB (s.st+1) 0 0 s.vals (nextVals k j3 i s i) (nextChs k j3 i s i) Av Ac none Aw cv cc 0 0 cw ⟨by simp[nextVals],Rd.of_own HVo.out,nextVals_bd HOK.out⟩ ⟨by simp[nextChs],Rd.of_own HCo.out⟩ ⟨HOK.out.lv,HWv.out,HOK.out.bv⟩).mono ?_
  rintro e z ⟨Ai2,ci2,rfl,hrd,hbz,hnew⟩
  have HRD:=hide hrd
  have HBZ:=hide hbz
  have HNW:=hide hnew
  have szz:wr.heap.size≤z.heap.size:=hbz.size
  clear hrd hbz hnew s0 s1 s2 s3 s4 s5 a1
  have HR0:=hide ((HBZ.out.block (w.heap.size+1) (by omega)).trans ((HM.out.2 (w.heap.size+1) (by omega) (by omega)).trans HU.out.2.2.2.1))
  have HVz:=hide ((Rd.of_own HVo.out).next HBZ.out)
  have HCz:=hide ((Rd.of_own HCo.out).next HBZ.out)
  have HNV:=hide (own_new HVo.out (Nat.le_refl _))
  have HNC:=hide (own_new HCo.out (Nat.le_refl _))
  obtain⟨q0,q1,q2,q3,q4,q5⟩:=zr6 HR0.out
  have zq:=zf HR0.out;have f0:=zq 0;have f1:=zq 1;have f2:=zq 2;have f3:=zq 3;have f4:=zq 4;have f5:=zq 5;clear zq
  have zz1:w.heap.size+1<z.heap.size:=by omega
  go_wp2
  obtain⟨wf,hwf⟩:∃q,(((((z.setCell ⟨w.heap.size+1,0,none⟩ (.int .i64 (s.st+1))).setCell ⟨w.heap.size+1,1,none⟩ (.slice Av i cv)).setCell ⟨w.heap.size+1,2,none⟩ (.slice Ac i cc)).setCell ⟨w.heap.size+1,3,none⟩ (.slice Ai2 i ci2)).setCell ⟨w.heap.size+1,4,none⟩ (.int .i64 (totV k es s.vals (nextVals k j3 i s i) (nextChs k j3 i s i) i).1)).setCell ⟨w.heap.size+1,5,none⟩ (.int .i64 (totV k es s.vals (nextVals k j3 i s i) (nextChs k j3 i s i) i).2)=q:=⟨_,rfl⟩
  have hF:=far6 z (w.heap.size+1) (w.heap.size+1) (.int .i64 (s.st+1)) (.slice Av i cv) (.slice Ac i cc) (.slice Ai2 i ci2) (.int .i64 (totV k es s.vals (nextVals k j3 i s i) (nextChs k j3 i s i) i).1) (.int .i64 (totV k es s.vals (nextVals k j3 i s i) (nextChs k j3 i s i) i).2) HR0.out
  rw[hwf] at hF ⊢
  obtain⟨FF,HY⟩:=hF
  obtain⟨y0,y1,y2,y3,y4,y5⟩:=cells6 HY
  clear hwf HY
  exact bodyPost_ret (v:=.agg #[.int .i64 (s.st+1),.slice Av i cv,.slice Ac i cc,.slice Ai2 i ci2,.int .i64 (totV k es s.vals (nextVals k j3 i s i) (nextChs k j3 i s i) i).1,.int .i64 (totV k es s.vals (nextVals k j3 i s i) (nextChs k j3 i s i) i).2]) (by simp[results,Tryz.results43,go_sem,y0,y1,y2,y3,y4,y5]) rfl ⟨Av,Ac,Ai2,cv,cc,ci2,rfl,⟨FF.rd HVz.out HNV.out (by omega) (by omega),FF.rd HCz.out HNC.out (by omega) (by omega),FF.rd HRD.out HNW.out (by omega) (by omega)⟩,(HBr.out.trans (HBZ.out.mono HBr.out.size)).trans (FF.below (by omega) (by omega)),HNV.out.mono (by omega),HNC.out.mono (by omega),HNW.out.mono (by omega)⟩
attribute [local go_sem] Oper.semAt_some
def TillPost (w:World) (E:Int) (V:Nat) (s:SV) (e:Ending) (w':World):Prop:=
 (E≠0∧e = .returned (.tuple #[.agg #[.int .i64 0,.slice none 0 0,.slice none 0 0,.slice none 0 0,.int .i64 0,.int .i64 0],.int .i64 E])∧Below w.heap.size w w') ∨
 (E=0∧∃Av Ac Ai cv cc ci,e = .returned (.tuple #[.agg #[.int .i64 s.st,.slice Av V cv,.slice Ac V cc,.slice Ai V ci,.int .i64 s.sm,.int .i64 s.mo],.int .i64 0])∧VIn w' s Av Ac Ai∧Below w.heap.size w w'∧NewA w.heap.size Av∧NewA w.heap.size Ac∧NewA w.heap.size Ai)
def stepAt (b:Nat) (w:World):Nat:=match w.cell? ⟨b,0,none⟩ with | some (.int _ x)=>x.toNat | _=>0
theorem stepAt_of {b:Nat} {w:World} {x:Int} (h:w.cell? ⟨b,0,none⟩=some (.int .i64 x)):stepAt b w=x.toNat:=by unfold stepAt;rw[h]
theorem at1_any (w:World) (st sm mo:Int) (A1 A2 A3:Option Addr) (n1 n2 n3 c1 c2 c3:Nat) (P:Nat) (q:Int) (hP:P<w.heap.size) (hq:w.cell? ⟨P,0,none⟩=some (.int .i64 q)):Calls Tryz.prog 18 #[.agg #[.int .i64 st,.slice A1 n1 c1,.slice A2 n2 c2,.slice A3 n3 c3,.int .i64 sm,.int .i64 mo],.pointer (some ⟨P,0,none⟩)] w fun e w'=>e = .returned (.bool (st == q))∧Below w.heap.size w w':=by
 have HB:=hide (show Below w.heap.size w (w.alloc (.cells #[.int .i64 st,.slice A1 n1 c1,.slice A2 n2 c2,.slice A3 n3 c3,.int .i64 sm,.int .i64 mo] 33)) from (Below.refl _ _).alloc (Nat.le_refl _) _)
 go_enter Tryz.func18,Tryz.ntmps18
 go_wp2
 go_ret
 exact⟨rfl,HB.out⟩
theorem tillAt_any (w:World) (V:Nat) (hV:V≤512) (A:Option Addr) (es:List Ed) (L c:Nat) (hL:es.length=L) (hL5:L≤80) (hE:Eds w w.heap.size A es) (hEB:edsB es) (k j1 j2 j3 j4:Int) (P:Nat) (kk:Int) (hP:w.heap[P]?=some (.cells #[.int .i64 kk] 3)) (N:Nat) (hN:N≤2000) (hT:((atV k j2 j3 es V N).st == kk)=true) (hF:∀n,n<N→((atV k j2 j3 es V n).st == kk)=false) :
  Calls Tryz.prog 17 #[.agg #[.int .i64 (V:Int),.slice A L c],.agg #[.int .u8 k,.int .i64 j1,.int .i64 j2,.int .i64 j3,.int .i64 j4],.func (.func 18) #[] #[.pointer (some ⟨P,0,none⟩)]] w (TillPost w (acheckF k j1 j2 j3 j4 (V:Int) es) V (atV k j2 j3 es V N)):=by
 have HL:=hide hL
 have HE:=hide hE
 have hPl:=(Array.getElem?_eq_some_iff.1 hP).1
 have HP:=hide hP
 have HT:=hide hT
 have HF:=hide hF
 clear hP hT hF
 obtain⟨E,hEe⟩:∃E,acheckF k j1 j2 j3 j4 (V:Int) es=E:=⟨_,rfl⟩
 rw[hEe]
 have HEE:=hide hEe
 clear hL hE hEe
 go_enter Tryz.func17,Tryz.ntmps17
 go_upto_region 1 with fail
 obtain⟨u,hu⟩:∃u,((w.alloc (.cells #[.int .i64 (V:Int),.slice A L c] 24)).alloc (.cells #[.int .u8 k,.int .i64 j1,.int .i64 j2,.int .i64 j3,.int .i64 j4] 27)).alloc (.cells #[.int .i64 0,.slice none 0 0,.slice none 0 0,.slice none 0 0,.int .i64 0,.int .i64 0] 33)=u:=⟨_,rfl⟩
 rw[hu]
 have HU:=hide (allocs3 hu)
 clear hu
 have hzu:u.heap.size=w.heap.size+3:=HU.out.2.1
 have hz0:w.heap.size<u.heap.size:=by omega
 have hz1:w.heap.size+1<u.heap.size:=by omega
 obtain⟨c0,c1⟩:=zr2 HU.out.2.2.1
 obtain⟨d0,d1,d2,d3,d4⟩:=zr5 HU.out.2.2.2.1
 go_wp2_with fail
 have hb0:=build_any u V hV A es L c HL.out (by omega) ((HE.out.below HU.out.1 (Nat.le_refl _)).more HU.out.1.size) k j1 j2 j3 j4
 rw[HEE.out] at hb0
 refine hb0.mono ?_
 rintro e y (⟨hE0,rfl,hb⟩ | ⟨rfl,m,B,xs,rfl,hA,hm1,hm2,hMI⟩)
 all_goals clear c0 c1 d0 d1 d2 d3 d4 hb0 hz0 hz1
 ·have hE1:(E == 0)=false:=by simpa using hE0
  have hE2:(E != 0)=true:=by simpa using hE0
  have HE0:=hide hE0
  have HBy:=hide hb
  have syu:u.heap.size≤y.heap.size:=hb.size
  clear hE0 hb
  have HRy:=hide ((HBy.out.block (w.heap.size+2) (by omega)).trans HU.out.2.2.2.2)
  have hRz:w.heap.size+1+1<y.heap.size:=by omega
  obtain⟨q0,q1,q2,q3,q4,q5⟩:=zr6 HRy.out
  have zq:=zf HRy.out;have f0:=zq 0;have f1:=zq 1;have f2:=zq 2;have f3:=zq 3;have f4:=zq 4;have f5:=zq 5;clear zq
  go_wp2
  obtain⟨wf,hwf⟩:∃q,(((((y.setCell ⟨w.heap.size+1+1,0,none⟩ (.int .i64 0)).setCell ⟨w.heap.size+1+1,1,none⟩ (.slice none 0 0)).setCell ⟨w.heap.size+1+1,2,none⟩ (.slice none 0 0)).setCell ⟨w.heap.size+1+1,3,none⟩ (.slice none 0 0)).setCell ⟨w.heap.size+1+1,4,none⟩ (.int .i64 0)).setCell ⟨w.heap.size+1+1,5,none⟩ (.int .i64 0)=q:=⟨_,rfl⟩
  have hF:=far6 y (w.heap.size+1+1) (w.heap.size+1+1) (.int .i64 0) (.slice none 0 0) (.slice none 0 0) (.slice none 0 0) (.int .i64 0) (.int .i64 0) HRy.out
  rw[hwf] at hF ⊢
  obtain⟨FF,HY⟩:=hF
  obtain⟨y0,y1,y2,y3,y4,y5⟩:=cells6 HY
  clear hwf HY
  exact bodyPost_ret (v:=.tuple #[.agg #[.int .i64 0,.slice none 0 0,.slice none 0 0,.slice none 0 0,.int .i64 0,.int .i64 0],.int .i64 E]) (by simp[results,Tryz.results17,go_sem,y0,y1,y2,y3,y4,y5]) rfl (.inl ⟨HE0.out,rfl,(HU.out.1.trans (HBy.out.mono (by omega))).trans (FF.below (by omega) (by omega))⟩)
 obtain⟨Aof,Aow,cof,cow,hMH⟩:=hMI.has hA HE.out.wt
 have HMY:=hide hMH
 have HBu:=hide hMI.below
 have syu:u.heap.size≤y.heap.size:=hMI.below.size
 clear hMH hMI hA
 go_wp2_with fail
 refine (mstart_any y m V A L c k j1 j2 j3 j4 es xs Aof Aow cof cow HMY.out hV HL.out hL5 hEB).mono ?_
 rintro e z ⟨Av,Ac,Ai,cv,cc,ci,rfl,hi2,hz2,n1,n2,n3⟩
 have HI2:=hide hi2
 have HZ2:=hide hz2
 have HN2:=hide (And.intro n1 (And.intro n2 n3))
 have sz2:y.heap.size≤z.heap.size:=hz2.size
 clear hi2 hz2 n1 n2 n3
 go_wp2
 obtain⟨z0,hz0⟩:∃q,z.alloc (.cells #[.int .i64 (startV k j2 es V).st,.slice Av V cv,.slice Ac V cc,.slice Ai V ci,.int .i64 (startV k j2 es V).sm,.int .i64 (startV k j2 es V).mo] 33)=q:=⟨_,rfl⟩
 have hS0:z0.heap[z.heap.size]?=some (.cells #[.int .i64 (startV k j2 es V).st,.slice Av V cv,.slice Ac V cc,.slice Ai V ci,.int .i64 (startV k j2 es V).sm,.int .i64 (startV k j2 es V).mo] 33):=by rw[←hz0];exact heap_alloc_last _ _
 have hB0:Below z.heap.size z z0:=by rw[←hz0];exact (Below.refl _ _).alloc (Nat.le_refl _) _
 rw[hz0]
 obtain⟨Sb,hSb⟩:∃q,z.heap.size=q:=⟨_,rfl⟩
 rw[hSb] at hS0 sz2 ⊢
 have HS0:=hide hS0
 have HB0:Hid (Below Sb z z0):=hide (by rw[←hSb];exact hB0)
 have HI0:=hide (HI2.out.next hB0)
 have HMH:=hide (HMY.out.next HZ2.out)
 have HSb:=hide hSb
 have HRy:=hide ((HZ2.out.block (w.heap.size+2) (by omega)).trans ((HBu.out.block (w.heap.size+2) (by omega)).trans HU.out.2.2.2.2))
 have HBy:=hide (show Below w.heap.size w z from (HU.out.1.trans (HBu.out.mono (by omega))).trans (HZ2.out.mono (by omega)))
 have HBw:=HBy
 clear hS0 hB0 hz0 hSb
 go_loopw [24] (fun _ wr=>∃(n:Nat) (Av Ac Ai:Option Addr) (cv cc ci:Nat),n≤N∧Hid (wr.heap[Sb]?=some (.cells #[.int .i64 (atV k j2 j3 es V n).st,.slice Av V cv,.slice Ac V cc,.slice Ai V ci,.int .i64 (atV k j2 j3 es V n).sm,.int .i64 (atV k j2 j3 es V n).mo] 33))∧Hid (VIn wr (atV k j2 j3 es V n) Av Ac Ai)∧Hid (NewA u.heap.size Av∧NewA u.heap.size Ac∧NewA u.heap.size Ai)∧Hid (Below Sb z wr)) (fun _ wr=>N-stepAt Sb wr)
 case atStart=>exact⟨0,Av,Ac,Ai,cv,cc,ci,by omega,HS0,HI0,hide ⟨HN2.out.1.mono (by omega),HN2.out.2.1.mono (by omega),HN2.out.2.2.mono (by omega)⟩,HB0⟩
 case round=>
  have hSz0:z.heap.size=Sb:=HSb.out
  obtain⟨n,Av,Ac,Ai,cv,cc,ci,hn,HS,HI,HN,HBr⟩:=hrel
  have srw:Sb≤wr.heap.size:=by have:=HBr.out.size;omega
  obtain⟨s0,s1,s2,s3,s4,s5⟩:=zr6 HS.out
  have hSw:Sb<wr.heap.size:=(Array.getElem?_eq_some_iff.1 HS.out).1
  have HPw:=(HBr.out.block P (by omega)).trans ((HBy.out.block P (by omega)).trans HP.out)
  have HC:=hide (at1_any wr (atV k j2 j3 es V n).st (atV k j2 j3 es V n).sm (atV k j2 j3 es V n).mo Av Ac Ai V V V cv cc ci P kk (Array.getElem?_eq_some_iff.1 HPw).1 (cell_of_row _ _ 0 _ _ _ HPw))
  clear HPw
  have hmr:MHas m V A L c k j1 j2 j3 j4 es xs Aof Aow cof cow wr:=HMH.out.next (HBr.out.mono (by omega))
  have HMr:=hide hmr
  clear hmr
  by_cases hlt:n<N
  ·rw[show ((atV k j2 j3 es V n).st == kk)=false from HF.out n hlt] at HC
   go_wp2_with fail
   refine HC.out.mono ?_
   rintro e z1 ⟨rfl,hz1⟩
   have HZ1:=hide hz1
   have sz1:wr.heap.size≤z1.heap.size:=hz1.size
   clear s0 s1 s2 s3 s4 s5
   clear hz1
   have HS1:=hide ((HZ1.out.block Sb hSw).trans HS.out)
   have hSz:Sb<z1.heap.size:=by omega
   obtain⟨s0,s1,s2,s3,s4,s5⟩:=zr6 HS1.out
   go_wp2_with fail
   refine (mnext_any z1 m V A L c k j1 j2 j3 j4 es xs Aof Aow cof cow (HMr.out.next HZ1.out) hV HL.out hL5 hEB (atV k j2 j3 es V n) (atV_ok (by omega) hEB n) Av Ac Ai cv cc ci (HI.out.next HZ1.out) (by rw[atV_st];omega) (by rw[atV_st];omega)).mono ?_
   rw[show nextV k j3 es V (atV k j2 j3 es V n)=atV k j2 j3 es V (n+1) from rfl]
   rintro e z2 ⟨Av2,Ac2,Ai2,cv2,cc2,ci2,rfl,hi2,hz2,n1,n2,n3⟩
   have HI2:=hide hi2
   have HZ2:=hide hz2
   have HN2:=hide (And.intro n1 (And.intro n2 n3))
   have sz2:z1.heap.size≤z2.heap.size:=hz2.size
   clear hi2 hz2 n1 n2 n3
   clear s0 s1 s2 s3 s4 s5
   have HS2:=hide ((HZ2.out.block Sb hSz).trans HS1.out)
   obtain⟨s0,s1,s2,s3,s4,s5⟩:=zr6 HS2.out
   have zq:=zf HS2.out;have f0:=zq 0;have f1:=zq 1;have f2:=zq 2;have f3:=zq 3;have f4:=zq 4;have f5:=zq 5;clear zq
   have hSy:Sb<z2.heap.size:=by omega
   go_wp2
   obtain⟨y4,hy4⟩:∃q,(((((z2.setCell ⟨Sb,0,none⟩ (.int .i64 (atV k j2 j3 es V (n+1)).st)).setCell ⟨Sb,1,none⟩ (.slice Av2 V cv2)).setCell ⟨Sb,2,none⟩ (.slice Ac2 V cc2)).setCell ⟨Sb,3,none⟩ (.slice Ai2 V ci2)).setCell ⟨Sb,4,none⟩ (.int .i64 (atV k j2 j3 es V (n+1)).sm)).setCell ⟨Sb,5,none⟩ (.int .i64 (atV k j2 j3 es V (n+1)).mo)=q:=⟨_,rfl⟩
   have hF:=far6 z2 Sb Sb (.int .i64 (atV k j2 j3 es V (n+1)).st) (.slice Av2 V cv2) (.slice Ac2 V cc2) (.slice Ai2 V ci2) (.int .i64 (atV k j2 j3 es V (n+1)).sm) (.int .i64 (atV k j2 j3 es V (n+1)).mo) HS2.out
   rw[hy4] at hF ⊢
   obtain⟨F4,hY⟩:=hF
   have HF4:=hide F4
   have HY4:=hide hY
   clear hy4 F4 hY
   clear s0 s1 s2 s3 s4 s5 f0 f1 f2 f3 f4 f5
   have HI4:Hid (VIn y4 (atV k j2 j3 es V (n+1)) Av2 Ac2 Ai2):=hide ⟨HF4.out.rd HI2.out.vals HN2.out.1 (by omega) (by omega),HF4.out.rd HI2.out.chg HN2.out.2.1 (by omega) (by omega),HF4.out.rd HI2.out.inb HN2.out.2.2 (by omega) (by omega)⟩
   have HB4:=hide (((HBr.out.trans (HZ1.out.mono srw)).trans (HZ2.out.mono (show Sb≤z1.heap.size by omega))).trans (HF4.out.below (Nat.le_refl _) (Nat.le_refl _)))
   have HN4:Hid (NewA u.heap.size Av2∧NewA u.heap.size Ac2∧NewA u.heap.size Ai2):=hide ⟨HN2.out.1.mono (by omega),HN2.out.2.1.mono (by omega),HN2.out.2.2.mono (by omega)⟩
   have hst:=stepAt_of (cell_of_row _ _ 0 _ _ _ HY4.out)
   have hst0:=stepAt_of (cell_of_row _ _ 0 _ _ _ HS.out)
   rw[atV_st] at hst hst0
   go_roundw
   case rel=>exact⟨n+1,Av2,Ac2,Ai2,cv2,cc2,ci2,by omega,HY4,HI4,HN4,HB4⟩
   case measure=>rw[hst,hst0];simp;omega
  obtain rfl:n=N:=by omega
  rw[show ((atV k j2 j3 es V n).st == kk)=true from HT.out] at HC
  go_wp2_with fail
  refine HC.out.mono ?_
  rintro e z1 ⟨rfl,hz1⟩
  have HZ1:=hide hz1
  have sz1:wr.heap.size≤z1.heap.size:=hz1.size
  clear s0 s1 s2 s3 s4 s5
  clear hz1
  have HS1:=hide ((HZ1.out.block Sb hSw).trans HS.out)
  have hSz:Sb<z1.heap.size:=by omega
  have hRz:w.heap.size+1+1<z1.heap.size:=by omega
  obtain⟨s0,s1,s2,s3,s4,s5⟩:=zr6 HS1.out
  have HR1:=hide ((HZ1.out.block (w.heap.size+2) (by omega)).trans ((HBr.out.block (w.heap.size+2) (by omega)).trans HRy.out))
  obtain⟨q0,q1,q2,q3,q4,q5⟩:=zr6 HR1.out
  have zq:=zf HR1.out;have f0:=zq 0;have f1:=zq 1;have f2:=zq 2;have f3:=zq 3;have f4:=zq 4;have f5:=zq 5;clear zq
  go_wp2
  obtain⟨wf,hwf⟩:∃q,(((((z1.setCell ⟨w.heap.size+1+1,0,none⟩ (.int .i64 (atV k j2 j3 es V n).st)).setCell ⟨w.heap.size+1+1,1,none⟩ (.slice Av V cv)).setCell ⟨w.heap.size+1+1,2,none⟩ (.slice Ac V cc)).setCell ⟨w.heap.size+1+1,3,none⟩ (.slice Ai V ci)).setCell ⟨w.heap.size+1+1,4,none⟩ (.int .i64 (atV k j2 j3 es V n).sm)).setCell ⟨w.heap.size+1+1,5,none⟩ (.int .i64 (atV k j2 j3 es V n).mo)=q:=⟨_,rfl⟩
  have hF:=far6 z1 (w.heap.size+1+1) (w.heap.size+1+1) (.int .i64 (atV k j2 j3 es V n).st) (.slice Av V cv) (.slice Ac V cc) (.slice Ai V ci) (.int .i64 (atV k j2 j3 es V n).sm) (.int .i64 (atV k j2 j3 es V n).mo) HR1.out
  rw[hwf] at hF ⊢
  obtain⟨FF,HY⟩:=hF
  obtain⟨y0,y1,y2,y3,y4,y5⟩:=cells6 HY
  clear hwf HY
  have HIz:=HI.out.next HZ1.out
  exact bodyPost_ret (v:=.tuple #[.agg #[.int .i64 (atV k j2 j3 es V n).st,.slice Av V cv,.slice Ac V cc,.slice Ai V ci,.int .i64 (atV k j2 j3 es V n).sm,.int .i64 (atV k j2 j3 es V n).mo],.int .i64 0]) (by simp[results,Tryz.results17,go_sem,y0,y1,y2,y3,y4,y5]) rfl (.inr ⟨rfl,Av,Ac,Ai,cv,cc,ci,rfl,⟨FF.rd HIz.vals HN.out.1 (by omega) (by omega),FF.rd HIz.chg HN.out.2.1 (by omega) (by omega),FF.rd HIz.inb HN.out.2.2 (by omega) (by omega)⟩,(HBw.out.trans ((HBr.out.mono (by omega)).trans (HZ1.out.mono (by omega)))).trans (FF.below (by omega) (by omega)),HN.out.1.mono (by omega),HN.out.2.1.mono (by omega),HN.out.2.2.mono (by omega)⟩)
attribute [local go_sem] Oper.semAt_some
theorem okFrom_all {V:Int} {es:List Ed} (h:okFrom V es 0=true) {e:Ed} (he:e∈es):0≤e.1∧e.1<V∧0≤e.2.1∧e.2.1<V∧0≤e.2.2∧e.2.2<2147483648:=by
 obtain⟨i,hi⟩:=List.getElem?_of_mem he
 have hl:=(List.getElem?_eq_some_iff.1 hi).1
 unfold okFrom at h
 have h1:=List.all_eq_true.1 h i (by rw[List.mem_range];omega)
 rw[Nat.zero_add] at h1
 unfold okAt at h1
 rw[hi] at h1
 have h2:fitsE e V=true:=by
  cases hf:fitsE e V with
  | true=>rfl
  | false=>dsimp only at h1;rw[hf] at h1;simp at h1
 unfold fitsE fitsB at h2
 simp only[Bool.and_eq_true,decide_eq_true_eq] at h2
 omega
theorem checkF_ok {V:Int} {es:List Ed} (h:checkF V es=0):1≤V∧V≤512∧es.length≤8192∧okFrom V es 0=true:=by
 unfold checkF at h
 split at h
 ·cases h
 split at h
 ·cases h
 split at h
 ·exact⟨by omega,by omega,by omega,‹_›⟩
 cases h
theorem acheck_ok {k j1 j2 j3 j4 V:Int} {es:List Ed} (h:acheckF k j1 j2 j3 j4 V es=0):(1≤V∧V≤512∧edsB es)∧(k=1∨k=2∨k=3)∧0≤j1∧j1≤2000:=by
 unfold acheckF at h
 split at h
 ·rename_i h1
  exact absurd h h1
 rename_i h1
 have h2:=checkF_ok (Decidable.not_not.1 h1)
 split at h
 ·rename_i h3
  refine⟨⟨h2.1,h2.2.1,fun e he=>?_⟩,h3.1,h3.2.1,h3.2.2.1⟩
  have:=okFrom_all h2.2.2.2 he
  unfold i64V
  omega
 cases h
theorem allocs4 {w u:World} {o0 o1 o2 o3:Obj} (h:(((w.alloc o0).alloc o1).alloc o2).alloc o3=u):Below w.heap.size w u∧u.heap.size=w.heap.size+4∧u.heap[w.heap.size]?=some o0∧u.heap[w.heap.size+1]?=some o1∧u.heap[w.heap.size+2]?=some o2∧u.heap[w.heap.size+3]?=some o3:=by
 have h3:=allocs3 (w:=w) (o0:=o0) (o1:=o1) (o2:=o2) rfl
 subst h
 refine⟨h3.1.alloc (by omega) _,by rw[World.size_alloc];omega,(Below.heap_alloc _ _ _ (by omega)).trans h3.2.2.1,(Below.heap_alloc _ _ _ (by omega)).trans h3.2.2.2.1,(Below.heap_alloc _ _ _ (by omega)).trans h3.2.2.2.2,?_⟩
 have:=heap_alloc_last (((w.alloc o0).alloc o1).alloc o2) o3
 rwa [h3.2.1] at this
def atE (E kk:Int):Int:=if E≠0 then E else if kk<0∨2000<kk then 4 else 0
theorem build_err_in (n:Nat) (hn:3≤n) (w:World) (V:Int) (A:Option Addr) (es:List Ed) (L c:Nat) (hL:es.length=L) (hL9:L≤9223372036854775807) (hE:Eds w w.heap.size A es) (k j1 j2 j3 j4:Int) (hne:acheckF k j1 j2 j3 j4 V es≠0) :
  CallsIn Fence.wide n Tryz.prog 41 #[.agg #[.int .i64 V,.slice A L c],.agg #[.int .u8 k,.int .i64 j1,.int .i64 j2,.int .i64 j3,.int .i64 j4]] w (fun e w'=>e = .returned (.tuple #[.pointer none,.int .i64 (acheckF k j1 j2 j3 j4 V es)])∧Below w.heap.size w w'):=by
 have h1:1≤n:=by omega
 have HCK:=hide (acheck_any ((w.alloc (.cells #[.int .i64 V,.slice A L c] 24)).alloc (.cells #[.int .u8 k,.int .i64 j1,.int .i64 j2,.int .i64 j3,.int .i64 j4] 27)) k j1 j2 j3 j4 V A es L c hL (Els.more (hE.below (((Below.refl w.heap.size w).alloc (Nat.le_refl _) _).alloc (by simp) _) (Nat.le_refl _)) (by simp;omega)) (by omega))
 refine callsIn_of_wp_marks Tryz.func41 rfl trivial ?_ rfl
 simp only[Tryz.ntmps41,List.size_toArray,List.length_cons,List.length_nil,Nat.reduceAdd,Nat.reduceSub,Array.replicate_succ,Array.replicate_zero,List.push_toArray,List.append_toArray,List.nil_append,List.cons_append]
 obtain⟨u,hu⟩:∃u,(w.alloc (.cells #[.int .i64 V,.slice A L c] 24)).alloc (.cells #[.int .u8 k,.int .i64 j1,.int .i64 j2,.int .i64 j3,.int .i64 j4] 27)=u:=⟨_,rfl⟩
 have HBu:=hide (show Below w.heap.size w u by rw[←hu];exact ((Below.refl _ _).alloc (Nat.le_refl _) _).alloc (by simp) _)
 have hzu:w.heap.size+1<u.heap.size:=by rw[←hu];simp
 have M0:=hide (show u.heap[w.heap.size]?=some (.cells #[.int .i64 V,.slice A L c] 24) by rw[←hu];exact (Below.heap_alloc _ _ _ (by simp)).trans (heap_alloc_last w _))
 have M1:=hide (show u.heap[w.heap.size+1]?=some (.cells #[.int .u8 k,.int .i64 j1,.int .i64 j2,.int .i64 j3,.int .i64 j4] 27) by rw[←hu];have h:=heap_alloc_last (w.alloc (.cells #[.int .i64 V,.slice A L c] 24)) (.cells #[.int .u8 k,.int .i64 j1,.int .i64 j2,.int .i64 j3,.int .i64 j4] 27);rw[World.size_alloc] at h;exact h)
 rw[hu] at HCK
 have HU:=hide hu
 have HE:=hide hE
 have HL:=hide hL
 clear hu hE hL
 have HNE:=hide hne
 clear hne
 obtain⟨E,hEe⟩:∃E,acheckF k j1 j2 j3 j4 V es=E:=⟨_,rfl⟩
 rw[hEe] at HCK HNE ⊢
 clear hEe
 have hE0:=HNE.out
 have c0:=cell_of_row _ _ 0 _ _ _ M0.out
 have c1:=cell_of_row _ _ 1 _ _ _ M0.out
 obtain⟨d0,d1,d2,d3,d4⟩:=zr5 M1.out
 have b0:u.cell? ⟨w.heap.size,0,none⟩=some (.int .i64 V):=c0
 have b1:u.cell? ⟨w.heap.size,1,none⟩=some (.slice A L c):=c1
 clear c0 c1
 gi_wp2_with fail
 rw[HU.out]
 refine⟨trivial,?_⟩
 refine (callsIn_wide.2 HCK.out).mono ?_
 rintro e y ⟨rfl,hy⟩
 have HY:=hide hy
 have hyz:=hy.size
 clear hy HCK b0 b1 d0 d1 d2 d3 d4
 have hE1:(E == 0)=false:=by simpa using hE0
 have hE2:(E != 0)=true:=by simpa using hE0
 have HN:=hide hE0
 clear hE0
 have HF:=hide (HBu.out.trans (HY.out.mono (by omega)))
 gi_wp2
 exact⟨_,results_tmp2 rfl _ _ _,rfl,HF.out⟩
theorem build_err (w:World) (V:Int) (A:Option Addr) (es:List Ed) (L c:Nat) (hL:es.length=L) (hL9:L≤9223372036854775807) (hE:Eds w w.heap.size A es) (k j1 j2 j3 j4:Int) (hne:acheckF k j1 j2 j3 j4 V es≠0) :
  Calls Tryz.prog 41 #[.agg #[.int .i64 V,.slice A L c],.agg #[.int .u8 k,.int .i64 j1,.int .i64 j2,.int .i64 j3,.int .i64 j4]] w (fun e w'=>e = .returned (.tuple #[.pointer none,.int .i64 (acheckF k j1 j2 j3 j4 V es)])∧Below w.heap.size w w'):=
 (callsIn_wide (n:=3)).1 (build_err_in 3 (Nat.le_refl _) w V A es L c hL hL9 hE k j1 j2 j3 j4 hne)
theorem till_err (w:World) (V:Int) (A:Option Addr) (es:List Ed) (L c:Nat) (hL:es.length=L) (hL9:L≤9223372036854775807) (hE:Eds w w.heap.size A es) (k j1 j2 j3 j4:Int) (hne:acheckF k j1 j2 j3 j4 V es≠0) (fv:Value) :
  Calls Tryz.prog 17 #[.agg #[.int .i64 V,.slice A L c],.agg #[.int .u8 k,.int .i64 j1,.int .i64 j2,.int .i64 j3,.int .i64 j4],fv] w (fun e w'=>e = .returned (.tuple #[.agg #[.int .i64 0,.slice none 0 0,.slice none 0 0,.slice none 0 0,.int .i64 0,.int .i64 0],.int .i64 (acheckF k j1 j2 j3 j4 V es)])∧Below w.heap.size w w'):=by
 have HL:=hide hL
 have HE:=hide hE
 have HNE:=hide hne
 obtain⟨E,hEe⟩:∃E,acheckF k j1 j2 j3 j4 V es=E:=⟨_,rfl⟩
 have HEe:=hide hEe
 have HN0:Hid (E≠0):=hide (by rw[←hEe];exact hne)
 rw[hEe]
 clear hL hE hne hEe
 go_enter Tryz.func17,Tryz.ntmps17
 go_upto_region 1 with fail
 obtain⟨u,hu⟩:∃u,((w.alloc (.cells #[.int .i64 V,.slice A L c] 24)).alloc (.cells #[.int .u8 k,.int .i64 j1,.int .i64 j2,.int .i64 j3,.int .i64 j4] 27)).alloc (.cells #[.int .i64 0,.slice none 0 0,.slice none 0 0,.slice none 0 0,.int .i64 0,.int .i64 0] 33)=u:=⟨_,rfl⟩
 rw[hu]
 have HU:=hide (allocs3 hu)
 clear hu
 have hzu:u.heap.size=w.heap.size+3:=HU.out.2.1
 have hz0:w.heap.size<u.heap.size:=by omega
 have hz1:w.heap.size+1<u.heap.size:=by omega
 obtain⟨c0,c1⟩:=zr2 HU.out.2.2.1
 obtain⟨d0,d1,d2,d3,d4⟩:=zr5 HU.out.2.2.2.1
 have hb0:=build_err u V A es L c HL.out hL9 ((HE.out.below HU.out.1 (Nat.le_refl _)).more HU.out.1.size) k j1 j2 j3 j4 HNE.out
 rw[HEe.out] at hb0
 have HB0:=hide hb0
 clear hb0
 go_wp2_with fail
 refine HB0.out.mono ?_
 rintro e y ⟨rfl,hb⟩
 have hE0:=HN0.out
 clear c0 c1 d0 d1 d2 d3 d4 hz0 hz1
 have hE1:(E == 0)=false:=by simpa using hE0
 have hE2:(E != 0)=true:=by simpa using hE0
 have HBy:=hide hb
 have syu:u.heap.size≤y.heap.size:=hb.size
 clear hE0 hb
 have HRy:=hide ((HBy.out.block (w.heap.size+2) (by omega)).trans HU.out.2.2.2.2)
 have hRz:w.heap.size+1+1<y.heap.size:=by omega
 obtain⟨q0,q1,q2,q3,q4,q5⟩:=zr6 HRy.out
 have zq:=zf HRy.out;have f0:=zq 0;have f1:=zq 1;have f2:=zq 2;have f3:=zq 3;have f4:=zq 4;have f5:=zq 5;clear zq
 go_wp2
 obtain⟨wf,hwf⟩:∃q,(((((y.setCell ⟨w.heap.size+1+1,0,none⟩ (.int .i64 0)).setCell ⟨w.heap.size+1+1,1,none⟩ (.slice none 0 0)).setCell ⟨w.heap.size+1+1,2,none⟩ (.slice none 0 0)).setCell ⟨w.heap.size+1+1,3,none⟩ (.slice none 0 0)).setCell ⟨w.heap.size+1+1,4,none⟩ (.int .i64 0)).setCell ⟨w.heap.size+1+1,5,none⟩ (.int .i64 0)=q:=⟨_,rfl⟩
 have hF:=far6 y (w.heap.size+1+1) (w.heap.size+1+1) (.int .i64 0) (.slice none 0 0) (.slice none 0 0) (.slice none 0 0) (.int .i64 0) (.int .i64 0) HRy.out
 rw[hwf] at hF ⊢
 obtain⟨FF,HY⟩:=hF
 obtain⟨y0,y1,y2,y3,y4,y5⟩:=cells6 HY
 clear hwf HY
 exact bodyPost_ret (v:=.tuple #[.agg #[.int .i64 0,.slice none 0 0,.slice none 0 0,.slice none 0 0,.int .i64 0,.int .i64 0],.int .i64 E]) (by simp[results,Tryz.results17,go_sem,y0,y1,y2,y3,y4,y5]) rfl ⟨rfl,(HU.out.1.trans (HBy.out.mono (by omega))).trans (FF.below (by omega) (by omega))⟩
theorem qat_any (w:World) (V:Int) (A:Option Addr) (es:List Ed) (L c:Nat) (hL:es.length=L) (hL9:L≤9223372036854775807) (hE:Eds w w.heap.size A es) (k j1 j2 j3 j4:Int) (kk:Int) (hG:acheckF k j1 j2 j3 j4 V es=0→L≤80) :
  Calls Tryz.prog 5 #[.agg #[.int .i64 V,.slice A L c],.agg #[.int .u8 k,.int .i64 j1,.int .i64 j2,.int .i64 j3,.int .i64 j4],.int .i64 kk] w (TillPost w (atE (acheckF k j1 j2 j3 j4 V es) kk) V.toNat (atV k j2 j3 es V.toNat kk.toNat)):=by
 have HL:=hide hL
 have HE:=hide hE
 have HG:=hide hG
 clear hL hE hG
 obtain⟨E,hEe⟩:∃E,acheckF k j1 j2 j3 j4 V es=E:=⟨_,rfl⟩
 have HEe:=hide hEe
 clear hEe
 by_cases hE0:E=0
 rotate_left
 ·have hE1:(E == 0)=false:=by simpa using hE0
  have hE2:(E != 0)=true:=by simpa using hE0
  have HN0:=hide hE0
  have HNE:Hid (acheckF k j1 j2 j3 j4 V es≠0):=hide (by rw[HEe.out];exact hE0)
  clear hE0
  rw[HEe.out]
  go_enter Tryz.func5,Tryz.ntmps5
  go_upto_region 1 with fail
  obtain⟨u,hu⟩:∃u,(((w.alloc (.cells #[.int .i64 V,.slice A L c] 24)).alloc (.cells #[.int .u8 k,.int .i64 j1,.int .i64 j2,.int .i64 j3,.int .i64 j4] 27)).alloc (.cells #[.int .i64 kk] 3)).alloc (.cells #[.int .i64 0,.slice none 0 0,.slice none 0 0,.slice none 0 0,.int .i64 0,.int .i64 0] 33)=u:=⟨_,rfl⟩
  rw[hu]
  have HU:=hide (allocs4 hu)
  clear hu
  have hzu:u.heap.size=w.heap.size+4:=HU.out.2.1
  obtain⟨c0,c1⟩:=zr2 HU.out.2.2.1
  obtain⟨d0,d1,d2,d3,d4⟩:=zr5 HU.out.2.2.2.1
  have kc:u.cell? ⟨w.heap.size+1+1,0,none⟩=some (.int .i64 kk):=cell_of_row _ _ 0 _ _ _ HU.out.2.2.2.2.1
  have hz0:w.heap.size<u.heap.size:=by omega
  have hz1:w.heap.size+1<u.heap.size:=by omega
  have hz2:w.heap.size+1+1<u.heap.size:=by omega
  have hck:=acheck_any u k j1 j2 j3 j4 V A es L c HL.out ((HE.out.below HU.out.1 (Nat.le_refl _)).more HU.out.1.size) hL9
  rw[HEe.out] at hck
  have HCK:=hide hck
  clear hck
  go_wp2_with fail
  refine HCK.out.mono ?_
  rintro e y ⟨rfl,hy⟩
  clear c0 c1 d0 d1 d2 d3 d4 hz0 hz1 kc hz2
  have HY:=hide hy
  have syu:u.heap.size≤y.heap.size:=hy.size
  clear hy
  have HBw:=hide (HU.out.1.trans (HY.out.mono (by omega)))
  have HEy:=hide ((HE.out.below HBw.out (Nat.le_refl _)).more HBw.out.size)
  have HRw:=hide ((HY.out.block (w.heap.size+3) (by omega)).trans HU.out.2.2.2.2.2)
  obtain⟨c0,c1⟩:=zr2 ((HY.out.block _ (by omega)).trans HU.out.2.2.1)
  obtain⟨d0,d1,d2,d3,d4⟩:=zr5 ((HY.out.block _ (by omega)).trans HU.out.2.2.2.1)
  have kc:y.cell? ⟨w.heap.size+1+1,0,none⟩=some (.int .i64 kk):=cell_of_row _ _ 0 _ _ _ ((HY.out.block _ (by omega)).trans HU.out.2.2.2.2.1)
  have hz0:w.heap.size<y.heap.size:=by omega
  have hz1:w.heap.size+1<y.heap.size:=by omega
  have hz2:w.heap.size+1+1<y.heap.size:=by omega
  go_wp2_with fail
  refine (till_err y V A es L c HL.out hL9 HEy.out k j1 j2 j3 j4 HNE.out _).mono ?_
  rw[HEe.out]
  rintro e z ⟨rfl,hz⟩
  have HZ:=hide hz
  have szz:y.heap.size≤z.heap.size:=hz.size
  clear hz
  clear c0 c1 d0 d1 d2 d3 d4 hz0 hz1 kc hz2
  have HRow:=hide ((HZ.out.block (w.heap.size+3) (by omega)).trans HRw.out)
  have hRz:w.heap.size+1+1+1<z.heap.size:=by omega
  obtain⟨q0,q1,q2,q3,q4,q5⟩:=zr6 HRow.out
  have zq:=zf HRow.out;have f0:=zq 0;have f1:=zq 1;have f2:=zq 2;have f3:=zq 3;have f4:=zq 4;have f5:=zq 5;clear zq
  go_wp2
  obtain⟨wf,hwf⟩:∃q,(((((z.setCell ⟨w.heap.size+1+1+1,0,none⟩ (.int .i64 0)).setCell ⟨w.heap.size+1+1+1,1,none⟩ (.slice none 0 0)).setCell ⟨w.heap.size+1+1+1,2,none⟩ (.slice none 0 0)).setCell ⟨w.heap.size+1+1+1,3,none⟩ (.slice none 0 0)).setCell ⟨w.heap.size+1+1+1,4,none⟩ (.int .i64 0)).setCell ⟨w.heap.size+1+1+1,5,none⟩ (.int .i64 0)=q:=⟨_,rfl⟩
  have hF:=far6 z (w.heap.size+1+1+1) (w.heap.size+1+1+1) (.int .i64 0) (.slice none 0 0) (.slice none 0 0) (.slice none 0 0) (.int .i64 0) (.int .i64 0) HRow.out
  rw[hwf] at hF ⊢
  obtain⟨FF,HY⟩:=hF
  obtain⟨y0,y1,y2,y3,y4,y5⟩:=cells6 HY
  clear hwf HY
  exact bodyPost_ret (v:=.tuple #[.agg #[.int .i64 0,.slice none 0 0,.slice none 0 0,.slice none 0 0,.int .i64 0,.int .i64 0],.int .i64 E]) (by simp[results,Tryz.results5,go_sem,y0,y1,y2,y3,y4,y5]) rfl (.inl ⟨by rw[atE,if_pos HN0.out];exact HN0.out,by rw[atE,if_pos HN0.out],(HBw.out.trans (HZ.out.mono (by omega))).trans (FF.below (by omega) (by omega))⟩)
 subst hE0
 by_cases hk1:kk<0
 ·rw[show (atE (acheckF k j1 j2 j3 j4 V es) kk)=4 by rw[HEe.out,atE,if_neg (fun h=>h rfl),if_pos (by omega)]]
  go_enter Tryz.func5,Tryz.ntmps5
  go_upto_region 1 with fail
  obtain⟨u,hu⟩:∃u,(((w.alloc (.cells #[.int .i64 V,.slice A L c] 24)).alloc (.cells #[.int .u8 k,.int .i64 j1,.int .i64 j2,.int .i64 j3,.int .i64 j4] 27)).alloc (.cells #[.int .i64 kk] 3)).alloc (.cells #[.int .i64 0,.slice none 0 0,.slice none 0 0,.slice none 0 0,.int .i64 0,.int .i64 0] 33)=u:=⟨_,rfl⟩
  rw[hu]
  have HU:=hide (allocs4 hu)
  clear hu
  have hzu:u.heap.size=w.heap.size+4:=HU.out.2.1
  obtain⟨c0,c1⟩:=zr2 HU.out.2.2.1
  obtain⟨d0,d1,d2,d3,d4⟩:=zr5 HU.out.2.2.2.1
  have kc:u.cell? ⟨w.heap.size+1+1,0,none⟩=some (.int .i64 kk):=cell_of_row _ _ 0 _ _ _ HU.out.2.2.2.2.1
  have hz0:w.heap.size<u.heap.size:=by omega
  have hz1:w.heap.size+1<u.heap.size:=by omega
  have hz2:w.heap.size+1+1<u.heap.size:=by omega
  have hck:=acheck_any u k j1 j2 j3 j4 V A es L c HL.out ((HE.out.below HU.out.1 (Nat.le_refl _)).more HU.out.1.size) hL9
  rw[HEe.out] at hck
  have HCK:=hide hck
  clear hck
  go_wp2_with fail
  refine HCK.out.mono ?_
  rintro e y ⟨rfl,hy⟩
  clear c0 c1 d0 d1 d2 d3 d4 hz0 hz1 kc hz2
  have HY:=hide hy
  have syu:u.heap.size≤y.heap.size:=hy.size
  clear hy
  have HBw:=hide (HU.out.1.trans (HY.out.mono (by omega)))
  have HEy:=hide ((HE.out.below HBw.out (Nat.le_refl _)).more HBw.out.size)
  have HRw:=hide ((HY.out.block (w.heap.size+3) (by omega)).trans HU.out.2.2.2.2.2)
  obtain⟨c0,c1⟩:=zr2 ((HY.out.block _ (by omega)).trans HU.out.2.2.1)
  obtain⟨d0,d1,d2,d3,d4⟩:=zr5 ((HY.out.block _ (by omega)).trans HU.out.2.2.2.1)
  have kc:y.cell? ⟨w.heap.size+1+1,0,none⟩=some (.int .i64 kk):=cell_of_row _ _ 0 _ _ _ ((HY.out.block _ (by omega)).trans HU.out.2.2.2.2.1)
  have hz0:w.heap.size<y.heap.size:=by omega
  have hz1:w.heap.size+1<y.heap.size:=by omega
  have hz2:w.heap.size+1+1<y.heap.size:=by omega
  have HRow:=HRw
  have hRz:w.heap.size+1+1+1<y.heap.size:=by omega
  obtain⟨q0,q1,q2,q3,q4,q5⟩:=zr6 HRow.out
  have zq:=zf HRow.out;have f0:=zq 0;have f1:=zq 1;have f2:=zq 2;have f3:=zq 3;have f4:=zq 4;have f5:=zq 5;clear zq
  go_wp2
  obtain⟨wf,hwf⟩:∃q,(((((y.setCell ⟨w.heap.size+1+1+1,0,none⟩ (.int .i64 0)).setCell ⟨w.heap.size+1+1+1,1,none⟩ (.slice none 0 0)).setCell ⟨w.heap.size+1+1+1,2,none⟩ (.slice none 0 0)).setCell ⟨w.heap.size+1+1+1,3,none⟩ (.slice none 0 0)).setCell ⟨w.heap.size+1+1+1,4,none⟩ (.int .i64 0)).setCell ⟨w.heap.size+1+1+1,5,none⟩ (.int .i64 0)=q:=⟨_,rfl⟩
  have hF:=far6 y (w.heap.size+1+1+1) (w.heap.size+1+1+1) (.int .i64 0) (.slice none 0 0) (.slice none 0 0) (.slice none 0 0) (.int .i64 0) (.int .i64 0) HRow.out
  rw[hwf] at hF ⊢
  obtain⟨FF,HY⟩:=hF
  obtain⟨y0,y1,y2,y3,y4,y5⟩:=cells6 HY
  clear hwf HY
  exact bodyPost_ret (v:=.tuple #[.agg #[.int .i64 0,.slice none 0 0,.slice none 0 0,.slice none 0 0,.int .i64 0,.int .i64 0],.int .i64 4]) (by simp[results,Tryz.results5,go_sem,y0,y1,y2,y3,y4,y5]) rfl (.inl ⟨by decide,rfl,HBw.out.trans (FF.below (by omega) (by omega))⟩)
 have hk1':0≤kk:=by omega
 by_cases hk2:2000<kk
 ·rw[show (atE (acheckF k j1 j2 j3 j4 V es) kk)=4 by rw[HEe.out,atE,if_neg (fun h=>h rfl),if_pos (by omega)]]
  go_enter Tryz.func5,Tryz.ntmps5
  go_upto_region 1 with fail
  obtain⟨u,hu⟩:∃u,(((w.alloc (.cells #[.int .i64 V,.slice A L c] 24)).alloc (.cells #[.int .u8 k,.int .i64 j1,.int .i64 j2,.int .i64 j3,.int .i64 j4] 27)).alloc (.cells #[.int .i64 kk] 3)).alloc (.cells #[.int .i64 0,.slice none 0 0,.slice none 0 0,.slice none 0 0,.int .i64 0,.int .i64 0] 33)=u:=⟨_,rfl⟩
  rw[hu]
  have HU:=hide (allocs4 hu)
  clear hu
  have hzu:u.heap.size=w.heap.size+4:=HU.out.2.1
  obtain⟨c0,c1⟩:=zr2 HU.out.2.2.1
  obtain⟨d0,d1,d2,d3,d4⟩:=zr5 HU.out.2.2.2.1
  have kc:u.cell? ⟨w.heap.size+1+1,0,none⟩=some (.int .i64 kk):=cell_of_row _ _ 0 _ _ _ HU.out.2.2.2.2.1
  have hz0:w.heap.size<u.heap.size:=by omega
  have hz1:w.heap.size+1<u.heap.size:=by omega
  have hz2:w.heap.size+1+1<u.heap.size:=by omega
  have hck:=acheck_any u k j1 j2 j3 j4 V A es L c HL.out ((HE.out.below HU.out.1 (Nat.le_refl _)).more HU.out.1.size) hL9
  rw[HEe.out] at hck
  have HCK:=hide hck
  clear hck
  go_wp2_with fail
  refine HCK.out.mono ?_
  rintro e y ⟨rfl,hy⟩
  clear c0 c1 d0 d1 d2 d3 d4 hz0 hz1 kc hz2
  have HY:=hide hy
  have syu:u.heap.size≤y.heap.size:=hy.size
  clear hy
  have HBw:=hide (HU.out.1.trans (HY.out.mono (by omega)))
  have HEy:=hide ((HE.out.below HBw.out (Nat.le_refl _)).more HBw.out.size)
  have HRw:=hide ((HY.out.block (w.heap.size+3) (by omega)).trans HU.out.2.2.2.2.2)
  obtain⟨c0,c1⟩:=zr2 ((HY.out.block _ (by omega)).trans HU.out.2.2.1)
  obtain⟨d0,d1,d2,d3,d4⟩:=zr5 ((HY.out.block _ (by omega)).trans HU.out.2.2.2.1)
  have kc:y.cell? ⟨w.heap.size+1+1,0,none⟩=some (.int .i64 kk):=cell_of_row _ _ 0 _ _ _ ((HY.out.block _ (by omega)).trans HU.out.2.2.2.2.1)
  have hz0:w.heap.size<y.heap.size:=by omega
  have hz1:w.heap.size+1<y.heap.size:=by omega
  have hz2:w.heap.size+1+1<y.heap.size:=by omega
  have HRow:=HRw
  have hRz:w.heap.size+1+1+1<y.heap.size:=by omega
  obtain⟨q0,q1,q2,q3,q4,q5⟩:=zr6 HRow.out
  have zq:=zf HRow.out;have f0:=zq 0;have f1:=zq 1;have f2:=zq 2;have f3:=zq 3;have f4:=zq 4;have f5:=zq 5;clear zq
  go_wp2
  obtain⟨wf,hwf⟩:∃q,(((((y.setCell ⟨w.heap.size+1+1+1,0,none⟩ (.int .i64 0)).setCell ⟨w.heap.size+1+1+1,1,none⟩ (.slice none 0 0)).setCell ⟨w.heap.size+1+1+1,2,none⟩ (.slice none 0 0)).setCell ⟨w.heap.size+1+1+1,3,none⟩ (.slice none 0 0)).setCell ⟨w.heap.size+1+1+1,4,none⟩ (.int .i64 0)).setCell ⟨w.heap.size+1+1+1,5,none⟩ (.int .i64 0)=q:=⟨_,rfl⟩
  have hF:=far6 y (w.heap.size+1+1+1) (w.heap.size+1+1+1) (.int .i64 0) (.slice none 0 0) (.slice none 0 0) (.slice none 0 0) (.int .i64 0) (.int .i64 0) HRow.out
  rw[hwf] at hF ⊢
  obtain⟨FF,HY⟩:=hF
  obtain⟨y0,y1,y2,y3,y4,y5⟩:=cells6 HY
  clear hwf HY
  exact bodyPost_ret (v:=.tuple #[.agg #[.int .i64 0,.slice none 0 0,.slice none 0 0,.slice none 0 0,.int .i64 0,.int .i64 0],.int .i64 4]) (by simp[results,Tryz.results5,go_sem,y0,y1,y2,y3,y4,y5]) rfl (.inl ⟨by decide,rfl,HBw.out.trans (FF.below (by omega) (by omega))⟩)
 have hk2':kk≤2000:=by omega
 have HEe0:=HEe.out
 obtain⟨⟨hV1,hV,hEB⟩,hk,hj0,hj1⟩:=acheck_ok HEe0
 have hL5:=HG.out HEe0
 clear HEe0
 rw[show (atE (acheckF k j1 j2 j3 j4 V es) kk)=0 by rw[HEe.out,atE,if_neg (fun h=>h rfl),if_neg (by omega)]]
 obtain⟨V,rfl⟩:∃q:Nat,V=(q:Int):=⟨V.toNat,by omega⟩
 rw[show ((V:Int)).toNat=V from rfl]
 have hV:V≤512:=by omega
 clear hk hj0 hj1
 have hT:((atV k j2 j3 es V kk.toNat).st == kk)=true:=by rw[atV_st];simp;omega
 have hF:∀n,n<kk.toNat→((atV k j2 j3 es V n).st == kk)=false:=fun n hn=>by rw[atV_st];simp;omega
 have HT:=hide hT
 have HF:=hide hF
 clear hT hF
 go_enter Tryz.func5,Tryz.ntmps5
 go_upto_region 1 with fail
 obtain⟨u,hu⟩:∃u,(((w.alloc (.cells #[.int .i64 (V:Int),.slice A L c] 24)).alloc (.cells #[.int .u8 k,.int .i64 j1,.int .i64 j2,.int .i64 j3,.int .i64 j4] 27)).alloc (.cells #[.int .i64 kk] 3)).alloc (.cells #[.int .i64 0,.slice none 0 0,.slice none 0 0,.slice none 0 0,.int .i64 0,.int .i64 0] 33)=u:=⟨_,rfl⟩
 rw[hu]
 have HU:=hide (allocs4 hu)
 clear hu
 have hzu:u.heap.size=w.heap.size+4:=HU.out.2.1
 obtain⟨c0,c1⟩:=zr2 HU.out.2.2.1
 obtain⟨d0,d1,d2,d3,d4⟩:=zr5 HU.out.2.2.2.1
 have kc:u.cell? ⟨w.heap.size+1+1,0,none⟩=some (.int .i64 kk):=cell_of_row _ _ 0 _ _ _ HU.out.2.2.2.2.1
 have hz0:w.heap.size<u.heap.size:=by omega
 have hz1:w.heap.size+1<u.heap.size:=by omega
 have hz2:w.heap.size+1+1<u.heap.size:=by omega
 have hck:=acheck_any u k j1 j2 j3 j4 (V:Int) A es L c HL.out ((HE.out.below HU.out.1 (Nat.le_refl _)).more HU.out.1.size) hL9
 rw[HEe.out] at hck
 have HCK:=hide hck
 clear hck
 go_wp2_with fail
 refine HCK.out.mono ?_
 rintro e y ⟨rfl,hy⟩
 clear c0 c1 d0 d1 d2 d3 d4 hz0 hz1 kc hz2
 have HY:=hide hy
 have syu:u.heap.size≤y.heap.size:=hy.size
 clear hy
 have HBw:=hide (HU.out.1.trans (HY.out.mono (by omega)))
 have HEy:=hide ((HE.out.below HBw.out (Nat.le_refl _)).more HBw.out.size)
 have HRw:=hide ((HY.out.block (w.heap.size+3) (by omega)).trans HU.out.2.2.2.2.2)
 obtain⟨c0,c1⟩:=zr2 ((HY.out.block _ (by omega)).trans HU.out.2.2.1)
 obtain⟨d0,d1,d2,d3,d4⟩:=zr5 ((HY.out.block _ (by omega)).trans HU.out.2.2.2.1)
 have kc:y.cell? ⟨w.heap.size+1+1,0,none⟩=some (.int .i64 kk):=cell_of_row _ _ 0 _ _ _ ((HY.out.block _ (by omega)).trans HU.out.2.2.2.2.1)
 have hz0:w.heap.size<y.heap.size:=by omega
 have hz1:w.heap.size+1<y.heap.size:=by omega
 have hz2:w.heap.size+1+1<y.heap.size:=by omega
 go_wp2_with fail
 refine (tillAt_any y V hV A es L c HL.out hL5 HEy.out hEB k j1 j2 j3 j4 (w.heap.size+2) kk ((HY.out.block _ (by omega)).trans HU.out.2.2.2.2.1) kk.toNat (by omega) HT.out HF.out).mono ?_
 rw[HEe.out]
 rintro e z (⟨h0,_⟩ | ⟨_,Av,Ac,Ai,ccv,ccc,cci,rfl,hin,hb,n1,n2,n3⟩)
 ·exact absurd rfl h0
 have HIN:=hide hin
 have HZ:=hide hb
 have HN:=hide (And.intro n1 (And.intro n2 n3))
 have szz:y.heap.size≤z.heap.size:=hb.size
 clear hin hb n1 n2 n3
 clear c0 c1 d0 d1 d2 d3 d4 hz0 hz1 kc hz2
 have HRow:=hide ((HZ.out.block (w.heap.size+3) (by omega)).trans HRw.out)
 have hRz:w.heap.size+1+1+1<z.heap.size:=by omega
 obtain⟨q0,q1,q2,q3,q4,q5⟩:=zr6 HRow.out
 have zq:=zf HRow.out;have f0:=zq 0;have f1:=zq 1;have f2:=zq 2;have f3:=zq 3;have f4:=zq 4;have f5:=zq 5;clear zq
 go_wp2
 obtain⟨wf,hwf⟩:∃q,(((((z.setCell ⟨w.heap.size+1+1+1,0,none⟩ (.int .i64 (atV k j2 j3 es V kk.toNat).st)).setCell ⟨w.heap.size+1+1+1,1,none⟩ (.slice Av V ccv)).setCell ⟨w.heap.size+1+1+1,2,none⟩ (.slice Ac V ccc)).setCell ⟨w.heap.size+1+1+1,3,none⟩ (.slice Ai V cci)).setCell ⟨w.heap.size+1+1+1,4,none⟩ (.int .i64 (atV k j2 j3 es V kk.toNat).sm)).setCell ⟨w.heap.size+1+1+1,5,none⟩ (.int .i64 (atV k j2 j3 es V kk.toNat).mo)=q:=⟨_,rfl⟩
 have hF:=far6 z (w.heap.size+1+1+1) (w.heap.size+1+1+1) (.int .i64 (atV k j2 j3 es V kk.toNat).st) (.slice Av V ccv) (.slice Ac V ccc) (.slice Ai V cci) (.int .i64 (atV k j2 j3 es V kk.toNat).sm) (.int .i64 (atV k j2 j3 es V kk.toNat).mo) HRow.out
 rw[hwf] at hF ⊢
 obtain⟨FF,HY⟩:=hF
 obtain⟨y0,y1,y2,y3,y4,y5⟩:=cells6 HY
 clear hwf HY
 exact bodyPost_ret (v:=.tuple #[.agg #[.int .i64 (atV k j2 j3 es V kk.toNat).st,.slice Av V ccv,.slice Ac V ccc,.slice Ai V cci,.int .i64 (atV k j2 j3 es V kk.toNat).sm,.int .i64 (atV k j2 j3 es V kk.toNat).mo],.int .i64 0]) (by simp[results,Tryz.results5,go_sem,y0,y1,y2,y3,y4,y5]) rfl (.inr ⟨rfl,Av,Ac,Ai,ccv,ccc,cci,rfl,⟨FF.rd HIN.out.vals HN.out.1 (by omega) (by omega),FF.rd HIN.out.chg HN.out.2.1 (by omega) (by omega),FF.rd HIN.out.inb HN.out.2.2 (by omega) (by omega)⟩,(HBw.out.trans (HZ.out.mono (by omega))).trans (FF.below (by omega) (by omega)),HN.out.1.mono (by omega),HN.out.2.1.mono (by omega),HN.out.2.2.mono (by omega)⟩)
end Go.Proofs.YtpojjmbalgmcoaaGreat

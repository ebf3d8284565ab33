/- Lemmas: Qst, Mso. -/
import Derived.Test.YtpgbjabifhjogaaGreatProg
import Derived.Deep.Strs
import Derived.Test.YtpgbjabifhjogaaGreatSkWw37
import Derived.Test.YtpgbjabifhjogaaGreatSkWw40
set_option linter.unusedVariables false
set_option linter.unusedSimpArgs false
set_option maxRecDepth 100000
set_option maxHeartbeats 16000000
namespace Go.Proofs.YtpgbjabifhjogaaGreat
open Go.RowKit Go.Shelf
attribute [local go_sem] Oper.semAt_some
def stepE (E V:Int) (p:SV):Int:=if E≠0 then E else if mayV V p=false∨p.st=2000 then 4 else 0
theorem mayV_ok {V:Int} {p:SV} (h:mayV V p=true) (hb:∀m∈p.inb,i64V m.2):(p.vals.length:Int)=V∧(p.chg.length:Int)=V∧(p.inb.length:Int)=V∧0≤p.st∧p.st≤2000∧OkS V.toNat p:=by
 unfold mayV at h
 simp only[Bool.and_eq_true,decide_eq_true_eq] at h
 obtain⟨⟨⟨⟨⟨⟨⟨⟨h1,h2⟩,h3⟩,h4⟩,h5⟩,h6⟩,h7⟩,h8⟩,h9⟩:=h
 refine⟨h3,h4,h5,h1,h2,⟨by omega,by omega,by omega,fun x hx=>?_,hb,?_⟩⟩
 ·have:=List.all_eq_true.1 h8 x hx
  simp only[wiB,Bool.and_eq_true,decide_eq_true_eq] at this
  unfold i64V
  omega
 simp only[wiB,Bool.and_eq_true,decide_eq_true_eq] at h6
 unfold i64V
 omega
theorem qstep_any (w:World) (V:Int) (A:Option Addr) (es:List Ed) (L c:Nat) (hL:es.length=L) (hL9:L≤9223372036854775807) (hE:Eds w w.heap.size A es) (k j1 j2 j3 j4:Int) (hG:acheckF k j1 j2 j3 j4 V es=0→L≤80) (p:SV) (Av Ac Ai:Option Addr) (nv nc ni cv cc ci:Nat) (hl:VLen p nv nc ni) (hi:VIn w p Av Ac Ai) (hbi:∀m∈p.inb,i64V m.2) (bv:nv≤9223372036854775807) (bi:ni≤9223372036854775807) :
  Calls Tryz.prog 19 #[.agg #[.int .i64 V,.slice A L c],.agg #[.int .u8 k,.int .i64 j1,.int .i64 j2,.int .i64 j3,.int .i64 j4],.agg #[.int .i64 p.st,.slice Av nv cv,.slice Ac nc cc,.slice Ai ni ci,.int .i64 p.sm,.int .i64 p.mo]] w (TillPost w (stepE (acheckF k j1 j2 j3 j4 V es) V p) V.toNat (nextV k j3 es V.toNat p)):=by
 have HL:=hide hL
 have HE:=hide hE
 have HG:=hide hG
 have HVL:=hide hl
 have HVI:=hide hi
 clear hL hE hG hl hi
 obtain⟨E,hEe⟩:∃E,acheckF k j1 j2 j3 j4 V es=E:=⟨_,rfl⟩
 have HEe:=hide hEe
 clear hEe
 by_cases hE0:E=0
 rotate_left
 ·have hE1:(E == 0)=false:=by simpa using hE0
  have hE2:(E != 0)=true:=by simpa using hE0
  have HN0:=hide hE0
  have HNE:Hid (acheckF k j1 j2 j3 j4 V es≠0):=hide (by rw[HEe.out];exact hE0)
  clear hE0
  rw[show stepE (acheckF k j1 j2 j3 j4 V es) V p=E by rw[HEe.out,stepE,if_pos HN0.out]]
  go_enter Tryz.func19,Tryz.ntmps19
  go_upto_region 1 with fail
  obtain⟨u,hu⟩:∃u,(((w.alloc (.cells #[.int .i64 V,.slice A L c] 24)).alloc (.cells #[.int .u8 k,.int .i64 j1,.int .i64 j2,.int .i64 j3,.int .i64 j4] 26)).alloc (.cells #[.int .i64 p.st,.slice Av nv cv,.slice Ac nc cc,.slice Ai ni ci,.int .i64 p.sm,.int .i64 p.mo] 33)).alloc (.cells #[.int .i64 0,.slice none 0 0,.slice none 0 0,.slice none 0 0,.int .i64 0,.int .i64 0] 33)=u:=⟨_,rfl⟩
  rw[hu]
  have HU:=hide (allocs4 hu)
  clear hu
  have hzu:u.heap.size=w.heap.size+4:=HU.out.2.1
  obtain⟨c0,c1⟩:=zr2 HU.out.2.2.1
  obtain⟨d0,d1,d2,d3,d4⟩:=zr5 HU.out.2.2.2.1
  have hz0:w.heap.size<u.heap.size:=by omega
  have hz1:w.heap.size+1<u.heap.size:=by omega
  have hb0:=build_err u V A es L c HL.out hL9 ((HE.out.below HU.out.1 (Nat.le_refl _)).more HU.out.1.size) k j1 j2 j3 j4 HNE.out
  rw[HEe.out] at hb0
  have HB0:=hide hb0
  clear hb0
  go_wp2_with fail
  refine HB0.out.mono ?_
  rintro e y ⟨rfl,hy⟩
  clear c0 c1 d0 d1 d2 d3 d4 hz0 hz1
  have HY:=hide hy
  have syu:u.heap.size≤y.heap.size:=hy.size
  clear hy
  have HRow:=hide (((HY.out.block _ (by omega)).trans HU.out.2.2.2.2.2))
  have hRz:w.heap.size+1+1+1<y.heap.size:=by omega
  obtain⟨q0,q1,q2,q3,q4,q5⟩:=zr6 HRow.out
  have zq:=zf HRow.out;have f0:=zq 0;have f1:=zq 1;have f2:=zq 2;have f3:=zq 3;have f4:=zq 4;have f5:=zq 5;clear zq
  go_wp2
  obtain⟨wf,hwf⟩:∃q,(((((y.setCell ⟨w.heap.size+1+1+1,0,none⟩ (.int .i64 0)).setCell ⟨w.heap.size+1+1+1,1,none⟩ (.slice none 0 0)).setCell ⟨w.heap.size+1+1+1,2,none⟩ (.slice none 0 0)).setCell ⟨w.heap.size+1+1+1,3,none⟩ (.slice none 0 0)).setCell ⟨w.heap.size+1+1+1,4,none⟩ (.int .i64 0)).setCell ⟨w.heap.size+1+1+1,5,none⟩ (.int .i64 0)=q:=⟨_,rfl⟩
  have hF:=far6 y (w.heap.size+1+1+1) (w.heap.size+1+1+1) (.int .i64 0) (.slice none 0 0) (.slice none 0 0) (.slice none 0 0) (.int .i64 0) (.int .i64 0) HRow.out
  rw[hwf] at hF ⊢
  obtain⟨FF,HFY⟩:=hF
  obtain⟨y0,y1,y2,y3,y4,y5⟩:=cells6 HFY
  clear hwf HFY
  exact bodyPost_ret (v:=.tuple #[.agg #[.int .i64 0,.slice none 0 0,.slice none 0 0,.slice none 0 0,.int .i64 0,.int .i64 0],.int .i64 E]) (by simp[results,Tryz.results19,go_sem,y0,y1,y2,y3,y4,y5]) rfl (.inl ⟨HN0.out,rfl,(HU.out.1.trans (HY.out.mono (by omega))).trans (FF.below (by omega) (by omega))⟩)
 subst hE0
 have HEe0:=HEe.out
 obtain⟨⟨hV1,hV,hEB⟩,_⟩:=acheck_ok HEe0
 have hL5:=HG.out HEe0
 clear HEe0
 rcases hm:mayV V p with _ | _
 ·have HMV:=hide hm
  rw[show stepE (acheckF k j1 j2 j3 j4 V es) V p=4 by rw[HEe.out,stepE,if_neg (fun h=>h rfl),if_pos (.inl hm)]]
  obtain⟨V,rfl⟩:∃q:Nat,V=(q:Int):=⟨V.toNat,by omega⟩
  rw[show ((V:Int)).toNat=V from rfl]
  have hV:V≤512:=by omega
  clear hm
  go_enter Tryz.func19,Tryz.ntmps19
  go_upto_region 1 with fail
  obtain⟨u,hu⟩:∃u,(((w.alloc (.cells #[.int .i64 (V:Int),.slice A L c] 24)).alloc (.cells #[.int .u8 k,.int .i64 j1,.int .i64 j2,.int .i64 j3,.int .i64 j4] 26)).alloc (.cells #[.int .i64 p.st,.slice Av nv cv,.slice Ac nc cc,.slice Ai ni ci,.int .i64 p.sm,.int .i64 p.mo] 33)).alloc (.cells #[.int .i64 0,.slice none 0 0,.slice none 0 0,.slice none 0 0,.int .i64 0,.int .i64 0] 33)=u:=⟨_,rfl⟩
  rw[hu]
  have HU:=hide (allocs4 hu)
  clear hu
  have hzu:u.heap.size=w.heap.size+4:=HU.out.2.1
  obtain⟨c0,c1⟩:=zr2 HU.out.2.2.1
  obtain⟨d0,d1,d2,d3,d4⟩:=zr5 HU.out.2.2.2.1
  have hz0:w.heap.size<u.heap.size:=by omega
  have hz1:w.heap.size+1<u.heap.size:=by omega
  have hb0:=build_any u V hV A es L c HL.out (by omega) ((HE.out.below HU.out.1 (Nat.le_refl _)).more HU.out.1.size) k j1 j2 j3 j4
  rw[HEe.out] at hb0
  have HB0:=hide hb0
  clear hb0
  go_wp2_with fail
  refine HB0.out.mono ?_
  rintro e y (⟨hE0,_⟩ | ⟨_,m,Bm,xs,rfl,hA,hm1,hm2,hMI⟩)
  ·exact absurd rfl hE0
  obtain⟨Aof,Aow,cof,cow,hMH⟩:=hMI.has hA HE.out.wt
  have HMY:=hide hMH
  have HY:=hide hMI.below
  have syu:u.heap.size≤y.heap.size:=hMI.below.size
  clear hMH hMI hA hm1 hm2
  clear c0 c1 d0 d1 d2 d3 d4 hz0 hz1
  have c0:y.cell? ⟨w.heap.size,0,none⟩=some (.int .i64 (V:Int)):=cell_of_row _ _ 0 _ _ _ ((HY.out.block _ (by omega)).trans HU.out.2.2.1)
  have hz0:w.heap.size<y.heap.size:=by omega
  obtain⟨s0,s1,s2,s3,s4,s5⟩:=zr6 ((HY.out.block _ (by omega)).trans HU.out.2.2.2.2.1)
  have hz2:w.heap.size+1+1<y.heap.size:=by omega
  have hmy:=pmay_any y p Av Ac Ai nv nc ni cv cc ci HVL.out (HVI.out.next (HU.out.1.trans (HY.out.mono (by omega)))) (by omega) (by omega) (V:Int)
  rw[HMV.out] at hmy
  have HMY2:=hide hmy
  clear hmy
  go_wp2_with fail
  refine HMY2.out.mono ?_
  rintro e z ⟨rfl,hzz⟩
  have HZ:=hide hzz
  have szy:y.heap.size≤z.heap.size:=hzz.size
  clear hzz c0 hz0
  clear s0 s1 s2 s3 s4 s5 hz2
  have HRow:=hide (((HZ.out.block _ (by omega)).trans ((HY.out.block _ (by omega)).trans HU.out.2.2.2.2.2)))
  have hRz:w.heap.size+1+1+1<z.heap.size:=by omega
  obtain⟨q0,q1,q2,q3,q4,q5⟩:=zr6 HRow.out
  have zq:=zf HRow.out;have f0:=zq 0;have f1:=zq 1;have f2:=zq 2;have f3:=zq 3;have f4:=zq 4;have f5:=zq 5;clear zq
  go_wp2
  obtain⟨wf,hwf⟩:∃q,(((((z.setCell ⟨w.heap.size+1+1+1,0,none⟩ (.int .i64 0)).setCell ⟨w.heap.size+1+1+1,1,none⟩ (.slice none 0 0)).setCell ⟨w.heap.size+1+1+1,2,none⟩ (.slice none 0 0)).setCell ⟨w.heap.size+1+1+1,3,none⟩ (.slice none 0 0)).setCell ⟨w.heap.size+1+1+1,4,none⟩ (.int .i64 0)).setCell ⟨w.heap.size+1+1+1,5,none⟩ (.int .i64 0)=q:=⟨_,rfl⟩
  have hF:=far6 z (w.heap.size+1+1+1) (w.heap.size+1+1+1) (.int .i64 0) (.slice none 0 0) (.slice none 0 0) (.slice none 0 0) (.int .i64 0) (.int .i64 0) HRow.out
  rw[hwf] at hF ⊢
  obtain⟨FF,HFY⟩:=hF
  obtain⟨y0,y1,y2,y3,y4,y5⟩:=cells6 HFY
  clear hwf HFY
  exact bodyPost_ret (v:=.tuple #[.agg #[.int .i64 0,.slice none 0 0,.slice none 0 0,.slice none 0 0,.int .i64 0,.int .i64 0],.int .i64 4]) (by simp[results,Tryz.results19,go_sem,y0,y1,y2,y3,y4,y5]) rfl (.inl ⟨by decide,rfl,((HU.out.1.trans (HY.out.mono (by omega))).trans (HZ.out.mono (by omega))).trans (FF.below (by omega) (by omega))⟩)
 by_cases hq:p.st=2000
 ·have HMV:=hide hm
  rw[show stepE (acheckF k j1 j2 j3 j4 V es) V p=4 by rw[HEe.out,stepE,if_neg (fun h=>h rfl),if_pos (.inr hq)]]
  obtain⟨V,rfl⟩:∃q:Nat,V=(q:Int):=⟨V.toNat,by omega⟩
  rw[show ((V:Int)).toNat=V from rfl]
  have hV:V≤512:=by omega
  have HQ:=hide hq
  clear hm hq
  go_enter Tryz.func19,Tryz.ntmps19
  go_upto_region 1 with fail
  obtain⟨u,hu⟩:∃u,(((w.alloc (.cells #[.int .i64 (V:Int),.slice A L c] 24)).alloc (.cells #[.int .u8 k,.int .i64 j1,.int .i64 j2,.int .i64 j3,.int .i64 j4] 26)).alloc (.cells #[.int .i64 p.st,.slice Av nv cv,.slice Ac nc cc,.slice Ai ni ci,.int .i64 p.sm,.int .i64 p.mo] 33)).alloc (.cells #[.int .i64 0,.slice none 0 0,.slice none 0 0,.slice none 0 0,.int .i64 0,.int .i64 0] 33)=u:=⟨_,rfl⟩
  rw[hu]
  have HU:=hide (allocs4 hu)
  clear hu
  have hzu:u.heap.size=w.heap.size+4:=HU.out.2.1
  obtain⟨c0,c1⟩:=zr2 HU.out.2.2.1
  obtain⟨d0,d1,d2,d3,d4⟩:=zr5 HU.out.2.2.2.1
  have hz0:w.heap.size<u.heap.size:=by omega
  have hz1:w.heap.size+1<u.heap.size:=by omega
  have hb0:=build_any u V hV A es L c HL.out (by omega) ((HE.out.below HU.out.1 (Nat.le_refl _)).more HU.out.1.size) k j1 j2 j3 j4
  rw[HEe.out] at hb0
  have HB0:=hide hb0
  clear hb0
  go_wp2_with fail
  refine HB0.out.mono ?_
  rintro e y (⟨hE0,_⟩ | ⟨_,m,Bm,xs,rfl,hA,hm1,hm2,hMI⟩)
  ·exact absurd rfl hE0
  obtain⟨Aof,Aow,cof,cow,hMH⟩:=hMI.has hA HE.out.wt
  have HMY:=hide hMH
  have HY:=hide hMI.below
  have syu:u.heap.size≤y.heap.size:=hMI.below.size
  clear hMH hMI hA hm1 hm2
  clear c0 c1 d0 d1 d2 d3 d4 hz0 hz1
  have c0:y.cell? ⟨w.heap.size,0,none⟩=some (.int .i64 (V:Int)):=cell_of_row _ _ 0 _ _ _ ((HY.out.block _ (by omega)).trans HU.out.2.2.1)
  have hz0:w.heap.size<y.heap.size:=by omega
  obtain⟨s0,s1,s2,s3,s4,s5⟩:=zr6 ((HY.out.block _ (by omega)).trans HU.out.2.2.2.2.1)
  have hz2:w.heap.size+1+1<y.heap.size:=by omega
  have hmy:=pmay_any y p Av Ac Ai nv nc ni cv cc ci HVL.out (HVI.out.next (HU.out.1.trans (HY.out.mono (by omega)))) (by omega) (by omega) (V:Int)
  rw[HMV.out] at hmy
  have HMY2:=hide hmy
  clear hmy
  go_wp2_with fail
  refine HMY2.out.mono ?_
  rintro e z ⟨rfl,hzz⟩
  have HZ:=hide hzz
  have szy:y.heap.size≤z.heap.size:=hzz.size
  clear hzz c0 hz0
  clear s0 s1 s2 s3 s4 s5 hz2
  have s0:z.cell? ⟨w.heap.size+1+1,0,none⟩=some (.int .i64 p.st):=cell_of_row _ _ 0 _ _ _ ((HZ.out.block _ (by omega)).trans ((HY.out.block _ (by omega)).trans HU.out.2.2.2.2.1))
  have hz2:w.heap.size+1+1<z.heap.size:=by omega
  have hq:=HQ.out
  have hq1:(p.st == 2000)=true:=by simp[hq]
  have hq2:2000≤p.st:=by omega
  clear hq
  have HRow:=hide (((HZ.out.block _ (by omega)).trans ((HY.out.block _ (by omega)).trans HU.out.2.2.2.2.2)))
  have hRz:w.heap.size+1+1+1<z.heap.size:=by omega
  obtain⟨q0,q1,q2,q3,q4,q5⟩:=zr6 HRow.out
  have zq:=zf HRow.out;have f0:=zq 0;have f1:=zq 1;have f2:=zq 2;have f3:=zq 3;have f4:=zq 4;have f5:=zq 5;clear zq
  go_wp2
  obtain⟨wf,hwf⟩:∃q,(((((z.setCell ⟨w.heap.size+1+1+1,0,none⟩ (.int .i64 0)).setCell ⟨w.heap.size+1+1+1,1,none⟩ (.slice none 0 0)).setCell ⟨w.heap.size+1+1+1,2,none⟩ (.slice none 0 0)).setCell ⟨w.heap.size+1+1+1,3,none⟩ (.slice none 0 0)).setCell ⟨w.heap.size+1+1+1,4,none⟩ (.int .i64 0)).setCell ⟨w.heap.size+1+1+1,5,none⟩ (.int .i64 0)=q:=⟨_,rfl⟩
  have hF:=far6 z (w.heap.size+1+1+1) (w.heap.size+1+1+1) (.int .i64 0) (.slice none 0 0) (.slice none 0 0) (.slice none 0 0) (.int .i64 0) (.int .i64 0) HRow.out
  rw[hwf] at hF ⊢
  obtain⟨FF,HFY⟩:=hF
  obtain⟨y0,y1,y2,y3,y4,y5⟩:=cells6 HFY
  clear hwf HFY
  exact bodyPost_ret (v:=.tuple #[.agg #[.int .i64 0,.slice none 0 0,.slice none 0 0,.slice none 0 0,.int .i64 0,.int .i64 0],.int .i64 4]) (by simp[results,Tryz.results19,go_sem,y0,y1,y2,y3,y4,y5]) rfl (.inl ⟨by decide,rfl,((HU.out.1.trans (HY.out.mono (by omega))).trans (HZ.out.mono (by omega))).trans (FF.below (by omega) (by omega))⟩)
 have HMV:=hide hm
 obtain⟨g1,g2,g3,g4,g5,hok⟩:=mayV_ok hm hbi
 rw[show stepE (acheckF k j1 j2 j3 j4 V es) V p=0 by rw[HEe.out,stepE,if_neg (fun h=>h rfl),if_neg (by rw[hm];simp[hq])]]
 obtain⟨V,rfl⟩:∃q:Nat,V=(q:Int):=⟨V.toNat,by omega⟩
 rw[show ((V:Int)).toNat=V from rfl]
 have hV:V≤512:=by omega
 rw[show ((V:Int)).toNat=V from rfl] at hok
 have HOK:=hide hok
 obtain⟨v1,v2,v3⟩:=HVL.out
 obtain rfl:nv=V:=by omega
 obtain rfl:nc=nv:=by omega
 obtain rfl:ni=nc:=by omega
 clear hm hok g1 g2 g3 v1 v2 v3
 go_enter Tryz.func19,Tryz.ntmps19
 go_upto_region 1 with fail
 obtain⟨u,hu⟩:∃u,(((w.alloc (.cells #[.int .i64 (ni:Int),.slice A L c] 24)).alloc (.cells #[.int .u8 k,.int .i64 j1,.int .i64 j2,.int .i64 j3,.int .i64 j4] 26)).alloc (.cells #[.int .i64 p.st,.slice Av ni cv,.slice Ac ni cc,.slice Ai ni ci,.int .i64 p.sm,.int .i64 p.mo] 33)).alloc (.cells #[.int .i64 0,.slice none 0 0,.slice none 0 0,.slice none 0 0,.int .i64 0,.int .i64 0] 33)=u:=⟨_,rfl⟩
 rw[hu]
 have HU:=hide (allocs4 hu)
 clear hu
 have hzu:u.heap.size=w.heap.size+4:=HU.out.2.1
 obtain⟨c0,c1⟩:=zr2 HU.out.2.2.1
 obtain⟨d0,d1,d2,d3,d4⟩:=zr5 HU.out.2.2.2.1
 have hz0:w.heap.size<u.heap.size:=by omega
 have hz1:w.heap.size+1<u.heap.size:=by omega
 have hb0:=build_any u ni hV A es L c HL.out (by omega) ((HE.out.below HU.out.1 (Nat.le_refl _)).more HU.out.1.size) k j1 j2 j3 j4
 rw[HEe.out] at hb0
 have HB0:=hide hb0
 clear hb0
 go_wp2_with fail
 refine HB0.out.mono ?_
 rintro e y (⟨hE0,_⟩ | ⟨_,m,Bm,xs,rfl,hA,hm1,hm2,hMI⟩)
 ·exact absurd rfl hE0
 obtain⟨Aof,Aow,cof,cow,hMH⟩:=hMI.has hA HE.out.wt
 have HMY:=hide hMH
 have HY:=hide hMI.below
 have syu:u.heap.size≤y.heap.size:=hMI.below.size
 clear hMH hMI hA hm1 hm2
 clear c0 c1 d0 d1 d2 d3 d4 hz0 hz1
 have c0:y.cell? ⟨w.heap.size,0,none⟩=some (.int .i64 (ni:Int)):=cell_of_row _ _ 0 _ _ _ ((HY.out.block _ (by omega)).trans HU.out.2.2.1)
 have hz0:w.heap.size<y.heap.size:=by omega
 obtain⟨s0,s1,s2,s3,s4,s5⟩:=zr6 ((HY.out.block _ (by omega)).trans HU.out.2.2.2.2.1)
 have hz2:w.heap.size+1+1<y.heap.size:=by omega
 have hmy:=pmay_any y p Av Ac Ai ni ni ni cv cc ci HVL.out (HVI.out.next (HU.out.1.trans (HY.out.mono (by omega)))) (by omega) (by omega) (ni:Int)
 rw[HMV.out] at hmy
 have HMY2:=hide hmy
 clear hmy
 go_wp2_with fail
 refine HMY2.out.mono ?_
 rintro e z ⟨rfl,hzz⟩
 have HZ:=hide hzz
 have szy:y.heap.size≤z.heap.size:=hzz.size
 clear hzz c0 hz0
 clear s0 s1 s2 s3 s4 s5 hz2
 have s0:z.cell? ⟨w.heap.size+1+1,0,none⟩=some (.int .i64 p.st):=cell_of_row _ _ 0 _ _ _ ((HZ.out.block _ (by omega)).trans ((HY.out.block _ (by omega)).trans HU.out.2.2.2.2.1))
 have hz2:w.heap.size+1+1<z.heap.size:=by omega
 have hq1:(p.st == 2000)=false:=by simpa using hq
 have hq2:¬(2000≤p.st):=by omega
 clear hq s0 hz2
 obtain⟨s0,s1,s2,s3,s4,s5⟩:=zr6 ((HZ.out.block _ (by omega)).trans ((HY.out.block _ (by omega)).trans HU.out.2.2.2.2.1))
 have hz2:w.heap.size+1+1<z.heap.size:=by omega
 go_wp2_with fail
 refine (mnext_any z m ni A L c k j1 j2 j3 j4 es xs Aof Aow cof cow (HMY.out.next HZ.out) hV HL.out hL5 hEB p HOK.out Av Ac Ai cv cc ci ((HVI.out.next (HU.out.1.trans (HY.out.mono (by omega)))).next HZ.out) g4 g5).mono ?_
 rintro e z3 ⟨Av2,Ac2,Ai2,cv2,cc2,ci2,rfl,hi2,hb2,n1,n2,n3⟩
 have HI2:=hide hi2
 have HZ3:=hide hb2
 have HN:=hide (And.intro n1 (And.intro n2 n3))
 have sz3:z.heap.size≤z3.heap.size:=hb2.size
 clear hi2 hb2 n1 n2 n3
 clear s0 s1 s2 s3 s4 s5 hz2
 have HRow:=hide ((HZ3.out.block _ (by omega)).trans ((HZ.out.block _ (by omega)).trans ((HY.out.block _ (by omega)).trans HU.out.2.2.2.2.2)))
 have hRz:w.heap.size+1+1+1<z3.heap.size:=by omega
 obtain⟨q0,q1,q2,q3,q4,q5⟩:=zr6 HRow.out
 have zq:=zf HRow.out;have f0:=zq 0;have f1:=zq 1;have f2:=zq 2;have f3:=zq 3;have f4:=zq 4;have f5:=zq 5;clear zq
 go_wp2
 obtain⟨wf,hwf⟩:∃q,(((((z3.setCell ⟨w.heap.size+1+1+1,0,none⟩ (.int .i64 (nextV k j3 es ni p).st)).setCell ⟨w.heap.size+1+1+1,1,none⟩ (.slice Av2 ni cv2)).setCell ⟨w.heap.size+1+1+1,2,none⟩ (.slice Ac2 ni cc2)).setCell ⟨w.heap.size+1+1+1,3,none⟩ (.slice Ai2 ni ci2)).setCell ⟨w.heap.size+1+1+1,4,none⟩ (.int .i64 (nextV k j3 es ni p).sm)).setCell ⟨w.heap.size+1+1+1,5,none⟩ (.int .i64 (nextV k j3 es ni p).mo)=q:=⟨_,rfl⟩
 have hF:=far6 z3 (w.heap.size+1+1+1) (w.heap.size+1+1+1) (.int .i64 (nextV k j3 es ni p).st) (.slice Av2 ni cv2) (.slice Ac2 ni cc2) (.slice Ai2 ni ci2) (.int .i64 (nextV k j3 es ni p).sm) (.int .i64 (nextV k j3 es ni p).mo) HRow.out
 rw[hwf] at hF ⊢
 obtain⟨FF,HFY⟩:=hF
 obtain⟨y0,y1,y2,y3,y4,y5⟩:=cells6 HFY
 clear hwf HFY
 exact bodyPost_ret (v:=.tuple #[.agg #[.int .i64 (nextV k j3 es ni p).st,.slice Av2 ni cv2,.slice Ac2 ni cc2,.slice Ai2 ni ci2,.int .i64 (nextV k j3 es ni p).sm,.int .i64 (nextV k j3 es ni p).mo],.int .i64 0]) (by simp[results,Tryz.results19,go_sem,y0,y1,y2,y3,y4,y5]) rfl (.inr ⟨rfl,Av2,Ac2,Ai2,cv2,cc2,ci2,rfl,⟨FF.rd HI2.out.vals HN.out.1 (by omega) (by omega),FF.rd HI2.out.chg HN.out.2.1 (by omega) (by omega),FF.rd HI2.out.inb HN.out.2.2 (by omega) (by omega)⟩,(((HU.out.1.trans (HY.out.mono (by omega))).trans (HZ.out.mono (by omega))).trans (HZ3.out.mono (by omega))).trans (FF.below (by omega) (by omega)),HN.out.1.mono (by omega),HN.out.2.1.mono (by omega),HN.out.2.2.mono (by omega)⟩)
theorem qrstep_any (w:World) (V:Int) (A:Option Addr) (es:List Ed) (L c:Nat) (hL:es.length=L) (hL9:L≤9223372036854775807) (hE:Eds w w.heap.size A es) (k j1 j2 j3 j4:Int) (hG:acheckF k j1 j2 j3 j4 V es=0→L≤80) (p:SV) (Av Ac Ai:Option Addr) (nv nc ni cv cc ci:Nat) (hl:VLen p nv nc ni) (hi:VIn w p Av Ac Ai) (hbi:∀m∈p.inb,i64V m.2) (bv:nv≤9223372036854775807) (bi:ni≤9223372036854775807) :
  Calls Tryz.prog 20 #[.agg #[.int .i64 V,.slice A L c],.agg #[.int .u8 k,.int .i64 j1,.int .i64 j2,.int .i64 j3,.int .i64 j4],.agg #[.int .i64 p.st,.slice Av nv cv,.slice Ac nc cc,.slice Ai ni ci,.int .i64 p.sm,.int .i64 p.mo]] w (TillPost w (stepE (acheckF k j1 j2 j3 j4 V es) V p) V.toNat (nextV k j3 es V.toNat p)):=by
 have HL:=hide hL
 have HE:=hide hE
 have HG:=hide hG
 have HVL:=hide hl
 have HVI:=hide hi
 clear hL hE hG hl hi
 obtain⟨E,hEe⟩:∃E,acheckF k j1 j2 j3 j4 V es=E:=⟨_,rfl⟩
 have HEe:=hide hEe
 clear hEe
 by_cases hE0:E=0
 rotate_left
 ·have hE1:(E == 0)=false:=by simpa using hE0
  have hE2:(E != 0)=true:=by simpa using hE0
  have HN0:=hide hE0
  have HNE:Hid (acheckF k j1 j2 j3 j4 V es≠0):=hide (by rw[HEe.out];exact hE0)
  clear hE0
  rw[show stepE (acheckF k j1 j2 j3 j4 V es) V p=E by rw[HEe.out,stepE,if_pos HN0.out]]
  go_enter Tryz.func20,Tryz.ntmps20
  go_upto_region 1 with fail
  obtain⟨u,hu⟩:∃u,(((w.alloc (.cells #[.int .i64 V,.slice A L c] 24)).alloc (.cells #[.int .u8 k,.int .i64 j1,.int .i64 j2,.int .i64 j3,.int .i64 j4] 26)).alloc (.cells #[.int .i64 p.st,.slice Av nv cv,.slice Ac nc cc,.slice Ai ni ci,.int .i64 p.sm,.int .i64 p.mo] 33)).alloc (.cells #[.int .i64 0,.slice none 0 0,.slice none 0 0,.slice none 0 0,.int .i64 0,.int .i64 0] 33)=u:=⟨_,rfl⟩
  rw[hu]
  have HU:=hide (allocs4 hu)
  clear hu
  have hzu:u.heap.size=w.heap.size+4:=HU.out.2.1
  obtain⟨c0,c1⟩:=zr2 HU.out.2.2.1
  obtain⟨d0,d1,d2,d3,d4⟩:=zr5 HU.out.2.2.2.1
  have hz0:w.heap.size<u.heap.size:=by omega
  have hz1:w.heap.size+1<u.heap.size:=by omega
  have hb0:=racheck_any u k j1 j2 j3 j4 V A es L c HL.out ((HE.out.below HU.out.1 (Nat.le_refl _)).more HU.out.1.size) hL9
  rw[HEe.out] at hb0
  have HB0:=hide hb0
  clear hb0
  go_wp2_with fail
  refine HB0.out.mono ?_
  rintro e y ⟨rfl,hy⟩
  clear c0 c1 d0 d1 d2 d3 d4 hz0 hz1
  have HY:=hide hy
  have syu:u.heap.size≤y.heap.size:=hy.size
  clear hy
  have HRow:=hide (((HY.out.block _ (by omega)).trans HU.out.2.2.2.2.2))
  have hRz:w.heap.size+1+1+1<y.heap.size:=by omega
  obtain⟨q0,q1,q2,q3,q4,q5⟩:=zr6 HRow.out
  have zq:=zf HRow.out;have f0:=zq 0;have f1:=zq 1;have f2:=zq 2;have f3:=zq 3;have f4:=zq 4;have f5:=zq 5;clear zq
  go_wp2
  obtain⟨wf,hwf⟩:∃q,(((((y.setCell ⟨w.heap.size+1+1+1,0,none⟩ (.int .i64 0)).setCell ⟨w.heap.size+1+1+1,1,none⟩ (.slice none 0 0)).setCell ⟨w.heap.size+1+1+1,2,none⟩ (.slice none 0 0)).setCell ⟨w.heap.size+1+1+1,3,none⟩ (.slice none 0 0)).setCell ⟨w.heap.size+1+1+1,4,none⟩ (.int .i64 0)).setCell ⟨w.heap.size+1+1+1,5,none⟩ (.int .i64 0)=q:=⟨_,rfl⟩
  have hF:=far6 y (w.heap.size+1+1+1) (w.heap.size+1+1+1) (.int .i64 0) (.slice none 0 0) (.slice none 0 0) (.slice none 0 0) (.int .i64 0) (.int .i64 0) HRow.out
  rw[hwf] at hF ⊢
  obtain⟨FF,HFY⟩:=hF
  obtain⟨y0,y1,y2,y3,y4,y5⟩:=cells6 HFY
  clear hwf HFY
  exact bodyPost_ret (v:=.tuple #[.agg #[.int .i64 0,.slice none 0 0,.slice none 0 0,.slice none 0 0,.int .i64 0,.int .i64 0],.int .i64 E]) (by simp[results,Tryz.results20,go_sem,y0,y1,y2,y3,y4,y5]) rfl (.inl ⟨HN0.out,rfl,(HU.out.1.trans (HY.out.mono (by omega))).trans (FF.below (by omega) (by omega))⟩)
 subst hE0
 have HEe0:=HEe.out
 obtain⟨⟨hV1,hV,hEB⟩,_⟩:=acheck_ok HEe0
 have hL5:=HG.out HEe0
 clear HEe0
 rcases hm:mayV V p with _ | _
 ·have HMV:=hide hm
  rw[show stepE (acheckF k j1 j2 j3 j4 V es) V p=4 by rw[HEe.out,stepE,if_neg (fun h=>h rfl),if_pos (.inl hm)]]
  obtain⟨V,rfl⟩:∃q:Nat,V=(q:Int):=⟨V.toNat,by omega⟩
  rw[show ((V:Int)).toNat=V from rfl]
  have hV:V≤512:=by omega
  clear hm
  go_enter Tryz.func20,Tryz.ntmps20
  go_upto_region 1 with fail
  obtain⟨u,hu⟩:∃u,(((w.alloc (.cells #[.int .i64 (V:Int),.slice A L c] 24)).alloc (.cells #[.int .u8 k,.int .i64 j1,.int .i64 j2,.int .i64 j3,.int .i64 j4] 26)).alloc (.cells #[.int .i64 p.st,.slice Av nv cv,.slice Ac nc cc,.slice Ai ni ci,.int .i64 p.sm,.int .i64 p.mo] 33)).alloc (.cells #[.int .i64 0,.slice none 0 0,.slice none 0 0,.slice none 0 0,.int .i64 0,.int .i64 0] 33)=u:=⟨_,rfl⟩
  rw[hu]
  have HU:=hide (allocs4 hu)
  clear hu
  have hzu:u.heap.size=w.heap.size+4:=HU.out.2.1
  obtain⟨c0,c1⟩:=zr2 HU.out.2.2.1
  obtain⟨d0,d1,d2,d3,d4⟩:=zr5 HU.out.2.2.2.1
  have hz0:w.heap.size<u.heap.size:=by omega
  have hz1:w.heap.size+1<u.heap.size:=by omega
  have hb0:=racheck_any u k j1 j2 j3 j4 (V:Int) A es L c HL.out ((HE.out.below HU.out.1 (Nat.le_refl _)).more HU.out.1.size) hL9
  rw[HEe.out] at hb0
  have HB0:=hide hb0
  clear hb0
  go_wp2_with fail
  refine HB0.out.mono ?_
  rintro e y ⟨rfl,hy⟩
  have HY:=hide hy
  have syu:u.heap.size≤y.heap.size:=hy.size
  clear hy
  clear c0 c1 d0 d1 d2 d3 d4 hz0 hz1
  have c0:y.cell? ⟨w.heap.size,0,none⟩=some (.int .i64 (V:Int)):=cell_of_row _ _ 0 _ _ _ ((HY.out.block _ (by omega)).trans HU.out.2.2.1)
  have hz0:w.heap.size<y.heap.size:=by omega
  obtain⟨s0,s1,s2,s3,s4,s5⟩:=zr6 ((HY.out.block _ (by omega)).trans HU.out.2.2.2.2.1)
  have hz2:w.heap.size+1+1<y.heap.size:=by omega
  have hmy:=dmay_any y p Av Ac Ai nv nc ni cv cc ci HVL.out (HVI.out.next (HU.out.1.trans (HY.out.mono (by omega)))) (by omega) (by omega) (V:Int)
  rw[HMV.out] at hmy
  have HMY2:=hide hmy
  clear hmy
  go_wp2_with fail
  refine HMY2.out.mono ?_
  rintro e z ⟨rfl,hzz⟩
  have HZ:=hide hzz
  have szy:y.heap.size≤z.heap.size:=hzz.size
  clear hzz c0 hz0
  clear s0 s1 s2 s3 s4 s5 hz2
  have HRow:=hide (((HZ.out.block _ (by omega)).trans ((HY.out.block _ (by omega)).trans HU.out.2.2.2.2.2)))
  have hRz:w.heap.size+1+1+1<z.heap.size:=by omega
  obtain⟨q0,q1,q2,q3,q4,q5⟩:=zr6 HRow.out
  have zq:=zf HRow.out;have f0:=zq 0;have f1:=zq 1;have f2:=zq 2;have f3:=zq 3;have f4:=zq 4;have f5:=zq 5;clear zq
  go_wp2
  obtain⟨wf,hwf⟩:∃q,(((((z.setCell ⟨w.heap.size+1+1+1,0,none⟩ (.int .i64 0)).setCell ⟨w.heap.size+1+1+1,1,none⟩ (.slice none 0 0)).setCell ⟨w.heap.size+1+1+1,2,none⟩ (.slice none 0 0)).setCell ⟨w.heap.size+1+1+1,3,none⟩ (.slice none 0 0)).setCell ⟨w.heap.size+1+1+1,4,none⟩ (.int .i64 0)).setCell ⟨w.heap.size+1+1+1,5,none⟩ (.int .i64 0)=q:=⟨_,rfl⟩
  have hF:=far6 z (w.heap.size+1+1+1) (w.heap.size+1+1+1) (.int .i64 0) (.slice none 0 0) (.slice none 0 0) (.slice none 0 0) (.int .i64 0) (.int .i64 0) HRow.out
  rw[hwf] at hF ⊢
  obtain⟨FF,HFY⟩:=hF
  obtain⟨y0,y1,y2,y3,y4,y5⟩:=cells6 HFY
  clear hwf HFY
  exact bodyPost_ret (v:=.tuple #[.agg #[.int .i64 0,.slice none 0 0,.slice none 0 0,.slice none 0 0,.int .i64 0,.int .i64 0],.int .i64 4]) (by simp[results,Tryz.results20,go_sem,y0,y1,y2,y3,y4,y5]) rfl (.inl ⟨by decide,rfl,((HU.out.1.trans (HY.out.mono (by omega))).trans (HZ.out.mono (by omega))).trans (FF.below (by omega) (by omega))⟩)
 by_cases hq:p.st=2000
 ·have HMV:=hide hm
  rw[show stepE (acheckF k j1 j2 j3 j4 V es) V p=4 by rw[HEe.out,stepE,if_neg (fun h=>h rfl),if_pos (.inr hq)]]
  obtain⟨V,rfl⟩:∃q:Nat,V=(q:Int):=⟨V.toNat,by omega⟩
  rw[show ((V:Int)).toNat=V from rfl]
  have hV:V≤512:=by omega
  have HQ:=hide hq
  clear hm hq
  go_enter Tryz.func20,Tryz.ntmps20
  go_upto_region 1 with fail
  obtain⟨u,hu⟩:∃u,(((w.alloc (.cells #[.int .i64 (V:Int),.slice A L c] 24)).alloc (.cells #[.int .u8 k,.int .i64 j1,.int .i64 j2,.int .i64 j3,.int .i64 j4] 26)).alloc (.cells #[.int .i64 p.st,.slice Av nv cv,.slice Ac nc cc,.slice Ai ni ci,.int .i64 p.sm,.int .i64 p.mo] 33)).alloc (.cells #[.int .i64 0,.slice none 0 0,.slice none 0 0,.slice none 0 0,.int .i64 0,.int .i64 0] 33)=u:=⟨_,rfl⟩
  rw[hu]
  have HU:=hide (allocs4 hu)
  clear hu
  have hzu:u.heap.size=w.heap.size+4:=HU.out.2.1
  obtain⟨c0,c1⟩:=zr2 HU.out.2.2.1
  obtain⟨d0,d1,d2,d3,d4⟩:=zr5 HU.out.2.2.2.1
  have hz0:w.heap.size<u.heap.size:=by omega
  have hz1:w.heap.size+1<u.heap.size:=by omega
  have hb0:=racheck_any u k j1 j2 j3 j4 (V:Int) A es L c HL.out ((HE.out.below HU.out.1 (Nat.le_refl _)).more HU.out.1.size) hL9
  rw[HEe.out] at hb0
  have HB0:=hide hb0
  clear hb0
  go_wp2_with fail
  refine HB0.out.mono ?_
  rintro e y ⟨rfl,hy⟩
  have HY:=hide hy
  have syu:u.heap.size≤y.heap.size:=hy.size
  clear hy
  clear c0 c1 d0 d1 d2 d3 d4 hz0 hz1
  have c0:y.cell? ⟨w.heap.size,0,none⟩=some (.int .i64 (V:Int)):=cell_of_row _ _ 0 _ _ _ ((HY.out.block _ (by omega)).trans HU.out.2.2.1)
  have hz0:w.heap.size<y.heap.size:=by omega
  obtain⟨s0,s1,s2,s3,s4,s5⟩:=zr6 ((HY.out.block _ (by omega)).trans HU.out.2.2.2.2.1)
  have hz2:w.heap.size+1+1<y.heap.size:=by omega
  have hmy:=dmay_any y p Av Ac Ai nv nc ni cv cc ci HVL.out (HVI.out.next (HU.out.1.trans (HY.out.mono (by omega)))) (by omega) (by omega) (V:Int)
  rw[HMV.out] at hmy
  have HMY2:=hide hmy
  clear hmy
  go_wp2_with fail
  refine HMY2.out.mono ?_
  rintro e z ⟨rfl,hzz⟩
  have HZ:=hide hzz
  have szy:y.heap.size≤z.heap.size:=hzz.size
  clear hzz c0 hz0
  clear s0 s1 s2 s3 s4 s5 hz2
  have s0:z.cell? ⟨w.heap.size+1+1,0,none⟩=some (.int .i64 p.st):=cell_of_row _ _ 0 _ _ _ ((HZ.out.block _ (by omega)).trans ((HY.out.block _ (by omega)).trans HU.out.2.2.2.2.1))
  have hz2:w.heap.size+1+1<z.heap.size:=by omega
  have hq:=HQ.out
  have hq1:(p.st == 2000)=true:=by simp[hq]
  have hq2:2000≤p.st:=by omega
  clear hq
  have HRow:=hide (((HZ.out.block _ (by omega)).trans ((HY.out.block _ (by omega)).trans HU.out.2.2.2.2.2)))
  have hRz:w.heap.size+1+1+1<z.heap.size:=by omega
  obtain⟨q0,q1,q2,q3,q4,q5⟩:=zr6 HRow.out
  have zq:=zf HRow.out;have f0:=zq 0;have f1:=zq 1;have f2:=zq 2;have f3:=zq 3;have f4:=zq 4;have f5:=zq 5;clear zq
  go_wp2
  obtain⟨wf,hwf⟩:∃q,(((((z.setCell ⟨w.heap.size+1+1+1,0,none⟩ (.int .i64 0)).setCell ⟨w.heap.size+1+1+1,1,none⟩ (.slice none 0 0)).setCell ⟨w.heap.size+1+1+1,2,none⟩ (.slice none 0 0)).setCell ⟨w.heap.size+1+1+1,3,none⟩ (.slice none 0 0)).setCell ⟨w.heap.size+1+1+1,4,none⟩ (.int .i64 0)).setCell ⟨w.heap.size+1+1+1,5,none⟩ (.int .i64 0)=q:=⟨_,rfl⟩
  have hF:=far6 z (w.heap.size+1+1+1) (w.heap.size+1+1+1) (.int .i64 0) (.slice none 0 0) (.slice none 0 0) (.slice none 0 0) (.int .i64 0) (.int .i64 0) HRow.out
  rw[hwf] at hF ⊢
  obtain⟨FF,HFY⟩:=hF
  obtain⟨y0,y1,y2,y3,y4,y5⟩:=cells6 HFY
  clear hwf HFY
  exact bodyPost_ret (v:=.tuple #[.agg #[.int .i64 0,.slice none 0 0,.slice none 0 0,.slice none 0 0,.int .i64 0,.int .i64 0],.int .i64 4]) (by simp[results,Tryz.results20,go_sem,y0,y1,y2,y3,y4,y5]) rfl (.inl ⟨by decide,rfl,((HU.out.1.trans (HY.out.mono (by omega))).trans (HZ.out.mono (by omega))).trans (FF.below (by omega) (by omega))⟩)
 have HMV:=hide hm
 obtain⟨g1,g2,g3,g4,g5,hok⟩:=mayV_ok hm hbi
 rw[show stepE (acheckF k j1 j2 j3 j4 V es) V p=0 by rw[HEe.out,stepE,if_neg (fun h=>h rfl),if_neg (by rw[hm];simp[hq])]]
 obtain⟨V,rfl⟩:∃q:Nat,V=(q:Int):=⟨V.toNat,by omega⟩
 rw[show ((V:Int)).toNat=V from rfl]
 have hV:V≤512:=by omega
 rw[show ((V:Int)).toNat=V from rfl] at hok
 have HOK:=hide hok
 obtain⟨v1,v2,v3⟩:=HVL.out
 obtain rfl:nv=V:=by omega
 obtain rfl:nc=nv:=by omega
 obtain rfl:ni=nc:=by omega
 clear hm hok g1 g2 g3 v1 v2 v3
 go_enter Tryz.func20,Tryz.ntmps20
 go_upto_region 1 with fail
 obtain⟨u,hu⟩:∃u,(((w.alloc (.cells #[.int .i64 (ni:Int),.slice A L c] 24)).alloc (.cells #[.int .u8 k,.int .i64 j1,.int .i64 j2,.int .i64 j3,.int .i64 j4] 26)).alloc (.cells #[.int .i64 p.st,.slice Av ni cv,.slice Ac ni cc,.slice Ai ni ci,.int .i64 p.sm,.int .i64 p.mo] 33)).alloc (.cells #[.int .i64 0,.slice none 0 0,.slice none 0 0,.slice none 0 0,.int .i64 0,.int .i64 0] 33)=u:=⟨_,rfl⟩
 rw[hu]
 have HU:=hide (allocs4 hu)
 clear hu
 have hzu:u.heap.size=w.heap.size+4:=HU.out.2.1
 obtain⟨c0,c1⟩:=zr2 HU.out.2.2.1
 obtain⟨d0,d1,d2,d3,d4⟩:=zr5 HU.out.2.2.2.1
 have hz0:w.heap.size<u.heap.size:=by omega
 have hz1:w.heap.size+1<u.heap.size:=by omega
 have hb0:=racheck_any u k j1 j2 j3 j4 (ni:Int) A es L c HL.out ((HE.out.below HU.out.1 (Nat.le_refl _)).more HU.out.1.size) hL9
 rw[HEe.out] at hb0
 have HB0:=hide hb0
 clear hb0
 go_wp2_with fail
 refine HB0.out.mono ?_
 rintro e y ⟨rfl,hy⟩
 have HY:=hide hy
 have syu:u.heap.size≤y.heap.size:=hy.size
 clear hy
 clear c0 c1 d0 d1 d2 d3 d4 hz0 hz1
 have c0:y.cell? ⟨w.heap.size,0,none⟩=some (.int .i64 (ni:Int)):=cell_of_row _ _ 0 _ _ _ ((HY.out.block _ (by omega)).trans HU.out.2.2.1)
 have hz0:w.heap.size<y.heap.size:=by omega
 obtain⟨s0,s1,s2,s3,s4,s5⟩:=zr6 ((HY.out.block _ (by omega)).trans HU.out.2.2.2.2.1)
 have hz2:w.heap.size+1+1<y.heap.size:=by omega
 have hmy:=dmay_any y p Av Ac Ai ni ni ni cv cc ci HVL.out (HVI.out.next (HU.out.1.trans (HY.out.mono (by omega)))) (by omega) (by omega) (ni:Int)
 rw[HMV.out] at hmy
 have HMY2:=hide hmy
 clear hmy
 go_wp2_with fail
 refine HMY2.out.mono ?_
 rintro e z ⟨rfl,hzz⟩
 have HZ:=hide hzz
 have szy:y.heap.size≤z.heap.size:=hzz.size
 clear hzz c0 hz0
 clear s0 s1 s2 s3 s4 s5 hz2
 have s0:z.cell? ⟨w.heap.size+1+1,0,none⟩=some (.int .i64 p.st):=cell_of_row _ _ 0 _ _ _ ((HZ.out.block _ (by omega)).trans ((HY.out.block _ (by omega)).trans HU.out.2.2.2.2.1))
 have hz2:w.heap.size+1+1<z.heap.size:=by omega
 have hq1:(p.st == 2000)=false:=by simpa using hq
 have hq2:¬(2000≤p.st):=by omega
 clear hq s0 hz2
 obtain⟨s0,s1,s2,s3,s4,s5⟩:=zr6 ((HZ.out.block _ (by omega)).trans ((HY.out.block _ (by omega)).trans HU.out.2.2.2.2.1))
 have hz2:w.heap.size+1+1<z.heap.size:=by omega
 obtain⟨c0,c1⟩:=zr2 ((HZ.out.block _ (by omega)).trans ((HY.out.block _ (by omega)).trans HU.out.2.2.1))
 obtain⟨d0,d1,d2,d3,d4⟩:=zr5 ((HZ.out.block _ (by omega)).trans ((HY.out.block _ (by omega)).trans HU.out.2.2.2.1))
 have hz0:w.heap.size<z.heap.size:=by omega
 have hz1:w.heap.size+1<z.heap.size:=by omega
 go_wp2_with fail
 refine (qrnext_any z ni A es L c HL.out hL5 ((HE.out.below ((HU.out.1.trans (HY.out.mono (by omega))).trans (HZ.out.mono (by omega))) (Nat.le_refl _)).more (((HU.out.1.trans (HY.out.mono (by omega))).trans (HZ.out.mono (by omega))).size)) k j1 j2 j3 j4 hV hEB p HOK.out Av Ac Ai cv cc ci ((HVI.out.next (HU.out.1.trans (HY.out.mono (by omega)))).next HZ.out) g4 g5).mono ?_
 rintro e z3 ⟨Av2,Ac2,Ai2,cv2,cc2,ci2,rfl,hi2,hb2,n1,n2,n3⟩
 have HI2:=hide hi2
 have HZ3:=hide hb2
 have HN:=hide (And.intro n1 (And.intro n2 n3))
 have sz3:z.heap.size≤z3.heap.size:=hb2.size
 clear hi2 hb2 n1 n2 n3
 clear s0 s1 s2 s3 s4 s5 hz2
 clear c0 c1 d0 d1 d2 d3 d4 hz0 hz1
 have HRow:=hide ((HZ3.out.block _ (by omega)).trans ((HZ.out.block _ (by omega)).trans ((HY.out.block _ (by omega)).trans HU.out.2.2.2.2.2)))
 have hRz:w.heap.size+1+1+1<z3.heap.size:=by omega
 obtain⟨q0,q1,q2,q3,q4,q5⟩:=zr6 HRow.out
 have zq:=zf HRow.out;have f0:=zq 0;have f1:=zq 1;have f2:=zq 2;have f3:=zq 3;have f4:=zq 4;have f5:=zq 5;clear zq
 go_wp2
 obtain⟨wf,hwf⟩:∃q,(((((z3.setCell ⟨w.heap.size+1+1+1,0,none⟩ (.int .i64 (nextV k j3 es ni p).st)).setCell ⟨w.heap.size+1+1+1,1,none⟩ (.slice Av2 ni cv2)).setCell ⟨w.heap.size+1+1+1,2,none⟩ (.slice Ac2 ni cc2)).setCell ⟨w.heap.size+1+1+1,3,none⟩ (.slice Ai2 ni ci2)).setCell ⟨w.heap.size+1+1+1,4,none⟩ (.int .i64 (nextV k j3 es ni p).sm)).setCell ⟨w.heap.size+1+1+1,5,none⟩ (.int .i64 (nextV k j3 es ni p).mo)=q:=⟨_,rfl⟩
 have hF:=far6 z3 (w.heap.size+1+1+1) (w.heap.size+1+1+1) (.int .i64 (nextV k j3 es ni p).st) (.slice Av2 ni cv2) (.slice Ac2 ni cc2) (.slice Ai2 ni ci2) (.int .i64 (nextV k j3 es ni p).sm) (.int .i64 (nextV k j3 es ni p).mo) HRow.out
 rw[hwf] at hF ⊢
 obtain⟨FF,HFY⟩:=hF
 obtain⟨y0,y1,y2,y3,y4,y5⟩:=cells6 HFY
 clear hwf HFY
 exact bodyPost_ret (v:=.tuple #[.agg #[.int .i64 (nextV k j3 es ni p).st,.slice Av2 ni cv2,.slice Ac2 ni cc2,.slice Ai2 ni ci2,.int .i64 (nextV k j3 es ni p).sm,.int .i64 (nextV k j3 es ni p).mo],.int .i64 0]) (by simp[results,Tryz.results20,go_sem,y0,y1,y2,y3,y4,y5]) rfl (.inr ⟨rfl,Av2,Ac2,Ai2,cv2,cc2,ci2,rfl,⟨FF.rd HI2.out.vals HN.out.1 (by omega) (by omega),FF.rd HI2.out.chg HN.out.2.1 (by omega) (by omega),FF.rd HI2.out.inb HN.out.2.2 (by omega) (by omega)⟩,(((HU.out.1.trans (HY.out.mono (by omega))).trans (HZ.out.mono (by omega))).trans (HZ3.out.mono (by omega))).trans (FF.below (by omega) (by omega)),HN.out.1.mono (by omega),HN.out.2.1.mono (by omega),HN.out.2.2.mono (by omega)⟩)
attribute [local go_sem] Oper.semAt_some
theorem FarS.own {b1 b2 base size n:Nat} {z f:World} {e:TypeId} {v:Value} {xs:List Value} (h:FarS b1 b2 z f) (ho:z.ownsRow base e size v n xs) (h1:b1<base) (h2:b2<base):f.ownsRow base e size v n xs:=by
 refine⟨ho.1,?_⟩
 rcases ho.2 with h0 | ⟨g,cap,cur,hv,hgb,hc,hrest⟩
 ·exact .inl h0
 exact .inr ⟨g,cap,cur,hv,hgb,(h.block g (by omega) (by omega)).trans hc,hrest⟩
def StPostO (w:World) (V:Nat) (s:SV) (e:Ending) (w':World):Prop:=
 ∃Av Ac Ai cv cc ci,e = .returned (.agg #[.int .i64 s.st,.slice Av V cv,.slice Ac V cc,.slice Ai V ci,.int .i64 s.sm,.int .i64 s.mo])∧VIn w' s Av Ac Ai∧Below w.heap.size w w'∧(NewA w.heap.size Av∧NewA w.heap.size Ac∧NewA w.heap.size Ai)∧w'.ownsRow w.heap.size 2 1 (.slice Av V cv) V (i64s s.vals)
theorem mnextO_any (w:World) (m V:Nat) (A:Option Addr) (L c:Nat) (k j1 j2 j3 j4:Int) (es:List Ed) (xs:List VX) (Aof Aow:Option Addr) (cof cow:Nat) (hMH:MHas m V A L c k j1 j2 j3 j4 es xs Aof Aow cof cow w) (hV:V≤512) (hL:es.length=L) (hL5:L≤80) (hEB:edsB es) (s:SV) (hok:OkS V s) (Aw Ac0 Ai:Option Addr) (cw cc0 ci:Nat) (hin:VIn w s Aw Ac0 Ai) (hs0:0≤s.st) (hs1:s.st≤2000) :
  Calls Tryz.prog 44 #[.pointer (some ⟨m,0,none⟩),.agg #[.int .i64 s.st,.slice Aw V cw,.slice Ac0 V cc0,.slice Ai V ci,.int .i64 s.sm,.int .i64 s.mo]] w (StPostO w V (nextV k j3 es V s)):=by
 obtain⟨a0,a0i,a0z,a0s,a0b⟩:=info_parts (show (Tryz.prog.info? 2).map (fun i=>(i.zero,i.size,i.bytes))=some (some (.int .i64 0),1,8) by kernel_rfl)
 obtain⟨b0,b0i,b0z,b0s,b0b⟩:=info_parts (show (Tryz.prog.info? 4).map (fun i=>(i.zero,i.size,i.bytes))=some (some (.bool false),1,1) by kernel_rfl)
 have hm0:=hMH.lt
 have HMH:=hide hMH
 have HL:=hide hL
 have HOK:=hide hok
 have HVI:=hide hin
 have hst:IntKind.i64.wrap (s.st+1)=s.st+1:=IntWalk.i64_in _ (by omega)
 clear hL hMH hok hin
 go_enter Tryz.func44,Tryz.ntmps44
 go_upto_region 2 with fail
 obtain⟨u,hu⟩:∃u,((w.alloc (.cells #[.int .i64 s.st,.slice Aw V cw,.slice Ac0 V cc0,.slice Ai V ci,.int .i64 s.sm,.int .i64 s.mo] 33)).alloc (.cells #[.int .i64 0,.slice none 0 0,.slice none 0 0,.slice none 0 0,.int .i64 0,.int .i64 0] 33)).alloc (.cells #[.int .i64 (s.st+1),.slice none 0 0,.slice none 0 0,.slice none 0 0,.int .i64 0,.int .i64 0] 33)=u:=⟨_,rfl⟩
 rw[hu]
 have HU:=hide (allocs3 hu)
 clear hu hst
 have hzu:u.heap.size=w.heap.size+3:=HU.out.2.1
 have a1:u.cell? ⟨w.heap.size,1,none⟩=some (.slice Aw V cw):=cell_of_row _ _ 1 _ _ _ HU.out.2.2.1
 have hmu:w.heap.size<u.heap.size:=by omega
 go_wp2
 clear a1 hmu
 go_loopw [17,6,7,8,9] (fun vi _ _ _ _ wr=>∃(i:Nat) (Av:Option Addr) (cv:Nat) (Ac:Option Addr) (cc:Nat),i≤V∧vi = .int .i64 (i:Int)∧Hid (wr.ownsRow u.heap.size 2 1 (.slice Av i cv) i (i64s (nextVals k j3 V s i)))∧Hid (wr.ownsRow u.heap.size 4 1 (.slice Ac i cc) i (bools (nextChs k j3 V s i)))∧Hid (Below w.heap.size w wr)∧Hid ((u.heap.size≤wr.heap.size∧wr.heap[w.heap.size+2]?=some (.cells #[.int .i64 (s.st+1),.slice Av i cv,.slice Ac i cc,.slice none 0 0,.int .i64 0,.int .i64 0] 33))∧∀q,q<u.heap.size→q≠w.heap.size+2→wr.heap[q]?=u.heap[q]?)) (fun vi _ _ _ _ _=>V-(intOf vi).toNat)
 case atStart=>exact⟨0,none,0,none,0,by omega,rfl,hide (World.ownsRow_nil _ _ _ _),hide (World.ownsRow_nil _ _ _ _),hide HU.out.1,hide ⟨⟨Nat.le_refl _,HU.out.2.2.2.2⟩,fun _ _ _=>rfl⟩⟩
 case round=>
  obtain⟨i,Av,cv,Ac,cc,hi,rfl,HVo,HCo,HBr,HM⟩:=hrel
  have srw:u.heap.size≤wr.heap.size:=HM.out.1.1
  by_cases hlt:i<V
  ·have hI1:(i:Int)<(V:Int):=by omega
   have hI0:(0:Int)≤(i:Int):=by omega
   have HB_wr:=HBr
   have GM:=(HB_wr.out.block m hm0).trans HMH.out.mem
   have d0:wr.cell? ⟨m,2,none⟩=some (.int .u8 k):=cell_of_row _ _ 2 _ _ _ GM
   have d1:wr.cell? ⟨m,3,none⟩=some (.int .i64 j1):=cell_of_row _ _ 3 _ _ _ GM
   have d2:wr.cell? ⟨m,4,none⟩=some (.int .i64 j2):=cell_of_row _ _ 4 _ _ _ GM
   have d3:wr.cell? ⟨m,5,none⟩=some (.int .i64 j3):=cell_of_row _ _ 5 _ _ _ GM
   have d4:wr.cell? ⟨m,6,none⟩=some (.int .i64 j4):=cell_of_row _ _ 6 _ _ _ GM
   have dV:wr.cell? ⟨m,0,none⟩=some (.int .i64 (V:Int)):=cell_of_row _ _ 0 _ _ _ GM
   clear GM
   obtain⟨vx,hvx⟩:∃y,s.vals[i]?=some y:=⟨_,List.getElem?_eq_getElem (by rw[HOK.out.lv];exact hlt)⟩
   obtain⟨g3,o3,rfl,hg3,x0⟩:=HVI.out.vals.at1 (i64s_get hvx)
   have e0:=(HBr.out.cell (p:=⟨g3,o3+i,none⟩) hg3).trans x0
   obtain⟨mm,hmm⟩:∃y,s.inb[i]?=some y:=⟨_,List.getElem?_eq_getElem (by rw[HOK.out.li];exact hlt)⟩
   obtain⟨g4,o4,rfl,hg4,x1,x2⟩:=HVI.out.inb.ml hmm
   have HMX:=hide (HOK.out.bi mm (List.mem_of_getElem? hmm))
   obtain⟨mh,mx⟩:=mm
   dsimp only at x1 x2 HMX
   have e1:wr.cell? ⟨g4,o4+i*2,none⟩=some (.bool mh):=(HBr.out.cell (p:=⟨g4,o4+i*2,none⟩) hg4).trans x1
   have e2:wr.cell? ⟨g4,o4+i*2+1,none⟩=some (.int .i64 mx):=(HBr.out.cell (p:=⟨g4,o4+i*2+1,none⟩) hg4).trans x2
   have HCV:=hide (show compK k (V:Int) vx mh mx s.sm j3=compV k j3 V s i by unfold compV;rw[show s.vals.getD i 0=vx by simp[List.getD_eq_getElem?_getD,hvx],show s.inb.getD i (false,0)=(mh,mx) by simp[List.getD_eq_getElem?_getD,hmm]])
   clear x0 x1 x2 hvx hmm
   have G0:=(HM.out.2 w.heap.size (by omega) (by omega)).trans HU.out.2.2.1
   have a3:wr.cell? ⟨w.heap.size,3,none⟩=some (.slice (some ⟨g4,o4,none⟩) V ci):=cell_of_row _ _ 3 _ _ _ G0
   have a4:wr.cell? ⟨w.heap.size,4,none⟩=some (.int .i64 s.sm):=cell_of_row _ _ 4 _ _ _ G0
   clear G0
   have hz1:w.heap.size<wr.heap.size:=by omega
   have hz3:g3<wr.heap.size:=by omega
   have hz4:g4<wr.heap.size:=by omega
   have hmr:m<wr.heap.size:=by omega
   go_upto_region 5 with fail
   refine wp_region_held_drew (S:=Kept wr) (by kernel_rfl) (Kept.drew wr) (fun hS0=>?_)
   refine tka 0 23 ?_
   refine tka 1 24 ?_
   refine tka 2 25 ?_
   refine tka 3 26 ?_
   refine tka 4 27 ?_
   refine tka 5 28 ?_
   refine tka 6 29 ?_
   refine tka 7 30 ?_
   refine tka 8 31 ?_
   refine tka 9 32 ?_
   refine tka 10 33 ?_
   refine tka 11 34 ?_
   refine tka 12 35 ?_
   refine tka 13 36 ?_
   refine tka 14 37 ?_
   refine tka 15 38 ?_
   refine tka 16 39 ?_
   refine ck 17 40 fun K hK=>?_
   go_simp
   refine (acomp_any wr.drew k j1 j2 j3 j4 (V:Int) vx mh mx s.sm (by omega) HMX.out.2 HOK.out.bs.2).mono ?_
   rw[HCV.out]
   rintro e z ⟨rfl,hz⟩
   have hS1:Kept wr z:=hS0.below (Nat.le_refl _) hz
   have HZ:Hid (Below wr.heap.size wr z):=hide (below_undrew hz)
   have szz:wr.heap.size≤z.heap.size:=hz.size
   clear hz
   go_wp2_with fail
   refine hK.out _ _ hS1 (fun hSn=>?_)
   clear hK K
   try simp only[zqd,zqe,zqf]
   refine tka 18 22 ?_
   refine tka 19 41 ?_
   refine tka 20 42 ?_
   refine tka 21 8 ?_
   refine tka 22 9 ?_
   refine wpAnyH_done (by kernel_rfl) ?_ _
   clear hS0 hSn hS1 d0 d1 d2 d3 d4 dV e0 e1 e2 a3 a4 hz1 hz3 hz4
   have HV1:=hide (own_below HVo.out HZ.out (fun g hg=>(HVo.out.lt g hg).2))
   have HC1:=hide (own_below HCo.out HZ.out (fun g hg=>(HCo.out.lt g hg).2))
   have HB1:=hide (HBr.out.trans (HZ.out.mono HBr.out.size))
   have HR1:=hide ((HZ.out.block (w.heap.size+2) (by omega)).trans HM.out.1.2)
   have p1:z.cell? ⟨w.heap.size+1+1,1,none⟩=some (.slice Av i cv):=cell_of_row _ _ 1 _ _ _ HR1.out
   go_wp2_with (at_builtin;refine wpList_app rfl (.tmp 44) (.tmp 46) 29 rfl u.heap.size 2 a0 (.int .i64 0) 1 8 Tryz.underlying29 a0i a0z a0s a0b rfl (by decide) (.slice Av i cv) i _ rfl (HV1.out.alloc _) (z.heap.size+1) (some ⟨z.heap.size,0,none⟩) 1 1 [.int .i64 (compV k j3 V s i).1] rfl rfl (Rd.new _ _ _ _) (by simp[Value.oneCell']) (by unfold maxLen;omega) (by omega) (by simp;omega) ?_)
   intro A2 c2 y own2 hg2 hat2
   have HO_y:Hid (y.ownsRow u.heap.size 2 1 (.slice A2 (i+1) c2) (i+1) (i64s (nextVals k j3 V s (i+1)))):=hide (by rw[nextVals_succ];simpa [i64s,bools,hzu] using own2)
   have HP_y:=hide (own_apart (HC1.out.alloc (.cells #[.int .i64 (compV k j3 V s i).1] 2)) (HV1.out.alloc (.cells #[.int .i64 (compV k j3 V s i).1] 2)) (by decide) hg2)
   have HB_y:=hide (app_below (HB1.out.alloc HB1.out.size (.cells #[.int .i64 (compV k j3 V s i).1] 2)) (HV1.out.alloc (.cells #[.int .i64 (compV k j3 V s i).1] 2)) hg2 (by rw[World.size_alloc];have:=HB1.out.size;omega) (by omega))
   have HQ_y:=hide (show ∀q,q<u.heap.size→y.heap[q]?=z.heap[q]? from fun q hq=>(hg2.block q (by rw[World.size_alloc];omega) (fun e=>by have:=(HV1.out.lt q e.symm).1;omega)).trans (Below.heap_alloc z _ q (by omega)))
   have hs_y:z.heap.size+1≤y.heap.size:=by have:=hg2.size;rwa [World.size_alloc] at this
   clear own2 hg2 hat2
   clear p1
   have q1:y.heap[w.heap.size+2]?=_:=(HQ_y.out (w.heap.size+2) (by omega)).trans HR1.out
   have p1:y.cell? ⟨w.heap.size+1+1,1,none⟩=some (.slice Av i cv):=cell_of_row _ _ 1 _ _ _ q1
   have f1:=zf q1 1
   have HR2:=hide q1
   clear q1
   go_upto_region 7 with fail
   clear p1 f1
   obtain⟨y1,hy1⟩:∃q,y.setCell ⟨w.heap.size+1+1,1,none⟩ (.slice A2 (i+1) c2)=q:=⟨_,rfl⟩
   have HV2:=hide (own_set (b:=w.heap.size+1+1) (j:=1) (u:=.slice A2 (i+1) c2) HO_y.out (by omega))
   have HC2:=hide (own_set (b:=w.heap.size+1+1) (j:=1) (u:=.slice A2 (i+1) c2) HP_y.out (by omega))
   have HB2:=hide (HB_y.out.setCell (p:=⟨w.heap.size+1+1,1,none⟩) (by show w.heap.size≤w.heap.size+1+1;omega) (.slice A2 (i+1) c2))
   have HR3:=hide (set_at1 (x:=.slice A2 (i+1) c2) HR2.out)
   have hs1:=World.size_setCell y ⟨w.heap.size+1+1,1,none⟩ (.slice A2 (i+1) c2)
   have HQ2:=hide (show ∀q,q<u.heap.size→q≠w.heap.size+1+1→(y.setCell ⟨w.heap.size+1+1,1,none⟩ (.slice A2 (i+1) c2)).heap[q]?=z.heap[q]? from fun q hq hn=>(Below.heap_setCell _ _ _ q hn).trans (HQ_y.out q hq))
   rw[hy1] at HV2 HC2 HB2 HR3 hs1 HQ2 ⊢
   have hs2:z.heap.size+1≤y1.heap.size:=by omega
   clear hy1 hs1
   have p2:y1.cell? ⟨w.heap.size+1+1,2,none⟩=some (.slice Ac i cc):=cell_of_row _ _ 2 _ _ _ HR3.out
   go_wp2_with (at_builtin;refine wpList_app rfl (.tmp 50) (.tmp 52) 30 rfl u.heap.size 4 b0 (.bool false) 1 1 Tryz.underlying30 b0i b0z b0s b0b rfl (by decide) (.slice Ac i cc) i _ rfl (HC2.out.alloc _) (y1.heap.size+1) (some ⟨y1.heap.size,0,none⟩) 1 1 [.bool (compV k j3 V s i).2] rfl rfl (Rd.new _ _ _ _) (by simp[Value.oneCell']) (by unfold maxLen;omega) (by omega) (by simp;omega) ?_)
   intro A3 c3 y2 own2 hg2 hat2
   have HO_y2:Hid (y2.ownsRow u.heap.size 4 1 (.slice A3 (i+1) c3) (i+1) (bools (nextChs k j3 V s (i+1)))):=hide (by rw[nextChs_succ];simpa [i64s,bools,hzu] using own2)
   have HP_y2:=hide (own_apart (HV2.out.alloc (.cells #[.bool (compV k j3 V s i).2] 4)) (HC2.out.alloc (.cells #[.bool (compV k j3 V s i).2] 4)) (by decide) hg2)
   have HB_y2:=hide (app_below (HB2.out.alloc HB2.out.size (.cells #[.bool (compV k j3 V s i).2] 4)) (HC2.out.alloc (.cells #[.bool (compV k j3 V s i).2] 4)) hg2 (by rw[World.size_alloc];have:=HB2.out.size;omega) (by omega))
   have HQ_y2:=hide (show ∀q,q<u.heap.size→y2.heap[q]?=y1.heap[q]? from fun q hq=>(hg2.block q (by rw[World.size_alloc];omega) (fun e=>by have:=(HC2.out.lt q e.symm).1;omega)).trans (Below.heap_alloc y1 _ q (by omega)))
   have hs_y2:y1.heap.size+1≤y2.heap.size:=by have:=hg2.size;rwa [World.size_alloc] at this
   clear own2 hg2 hat2
   clear p2
   have q1:y2.heap[w.heap.size+2]?=_:=(HQ_y2.out (w.heap.size+2) (by omega)).trans HR3.out
   have p2:y2.cell? ⟨w.heap.size+1+1,2,none⟩=some (.slice Ac i cc):=cell_of_row _ _ 2 _ _ _ q1
   have f2:=zf q1 2
   have HR4:=hide q1
   clear q1
   go_upto_region 8 with fail
   clear p2 f2
   obtain⟨y3,hy3⟩:∃q,y2.setCell ⟨w.heap.size+1+1,2,none⟩ (.slice A3 (i+1) c3)=q:=⟨_,rfl⟩
   have HC3:=hide (own_set (b:=w.heap.size+1+1) (j:=2) (u:=.slice A3 (i+1) c3) HO_y2.out (by omega))
   have HV3:=hide (own_set (b:=w.heap.size+1+1) (j:=2) (u:=.slice A3 (i+1) c3) HP_y2.out (by omega))
   have HB3:=hide (HB_y2.out.setCell (p:=⟨w.heap.size+1+1,2,none⟩) (by show w.heap.size≤w.heap.size+1+1;omega) (.slice A3 (i+1) c3))
   have HR5:=hide (set_at2 (x:=.slice A3 (i+1) c3) HR4.out)
   have hs3:=World.size_setCell y2 ⟨w.heap.size+1+1,2,none⟩ (.slice A3 (i+1) c3)
   have HQ3:=hide (show ∀q,q<u.heap.size→q≠w.heap.size+1+1→(y2.setCell ⟨w.heap.size+1+1,2,none⟩ (.slice A3 (i+1) c3)).heap[q]?=u.heap[q]? from fun q hq hn=>(Below.heap_setCell _ _ _ q hn).trans ((HQ_y2.out q hq).trans ((HQ2.out q hq hn).trans ((HZ.out.block q (by omega)).trans (HM.out.2 q hq hn)))))
   rw[hy3] at HV3 HC3 HB3 HR5 hs3 HQ3 ⊢
   have hs4:u.heap.size≤y3.heap.size:=by omega
   clear hy3 hs3
   go_wp2
   go_roundw
   case rel=>exact⟨i+1,A2,c2,A3,c3,by omega,by go_num,HV3,HC3,HB3,hide ⟨⟨hs4,HR5.out⟩,HQ3.out⟩⟩
   case measure=>simp[intOf];omega
  obtain rfl:i=V:=by omega
  have q1:=HM.out.1.2
  obtain⟨s0,s1,s2,s3,s4,s5⟩:=zr6 q1
  have G0:=(HM.out.2 w.heap.size (by omega) (by omega)).trans HU.out.2.2.1
  have a1:wr.cell? ⟨w.heap.size,1,none⟩=some (.slice Aw i cw):=cell_of_row _ _ 1 _ _ _ G0
  clear G0
  have HWv:=hide (HVI.out.vals.next HBr.out)
  have HR:=hide q1
  clear q1
  go_wp2_with fail
  refine (mtell_any wr m i A L c k j1 j2 j3 j4 es xs Aof Aow cof cow (HMH.out.next HBr.out) (by omega) HL.out (by omega) hEB (s.st+1) 0 0 s.vals (nextVals k j3 i s i) (nextChs k j3 i s i) Av Ac none Aw cv cc 0 0 cw ⟨by simp[nextVals],Rd.of_own HVo.out,nextVals_bd HOK.out⟩ ⟨by simp[nextChs],Rd.of_own HCo.out⟩ ⟨HOK.out.lv,HWv.out,HOK.out.bv⟩).mono ?_
  rintro e z ⟨Ai2,ci2,rfl,hrd,hbz,hnew⟩
  have HRD:=hide hrd
  have HBZ:=hide hbz
  have HNW:=hide hnew
  have szz:wr.heap.size≤z.heap.size:=hbz.size
  clear hrd hbz hnew s0 s1 s2 s3 s4 s5 a1
  have HR0:=hide ((HBZ.out.block (w.heap.size+1) (by omega)).trans ((HM.out.2 (w.heap.size+1) (by omega) (by omega)).trans HU.out.2.2.2.1))
  have HVz:=hide ((Rd.of_own HVo.out).next HBZ.out)
  have HCz:=hide ((Rd.of_own HCo.out).next HBZ.out)
  have HNV:=hide (own_new HVo.out (Nat.le_refl _))
  have HNC:=hide (own_new HCo.out (Nat.le_refl _))
  obtain⟨q0,q1,q2,q3,q4,q5⟩:=zr6 HR0.out
  have zq:=zf HR0.out;have f0:=zq 0;have f1:=zq 1;have f2:=zq 2;have f3:=zq 3;have f4:=zq 4;have f5:=zq 5;clear zq
  have zz1:w.heap.size+1<z.heap.size:=by omega
  go_wp2
  obtain⟨wf,hwf⟩:∃q,(((((z.setCell ⟨w.heap.size+1,0,none⟩ (.int .i64 (s.st+1))).setCell ⟨w.heap.size+1,1,none⟩ (.slice Av i cv)).setCell ⟨w.heap.size+1,2,none⟩ (.slice Ac i cc)).setCell ⟨w.heap.size+1,3,none⟩ (.slice Ai2 i ci2)).setCell ⟨w.heap.size+1,4,none⟩ (.int .i64 (totV k es s.vals (nextVals k j3 i s i) (nextChs k j3 i s i) i).1)).setCell ⟨w.heap.size+1,5,none⟩ (.int .i64 (totV k es s.vals (nextVals k j3 i s i) (nextChs k j3 i s i) i).2)=q:=⟨_,rfl⟩
  have hF:=far6 z (w.heap.size+1) (w.heap.size+1) (.int .i64 (s.st+1)) (.slice Av i cv) (.slice Ac i cc) (.slice Ai2 i ci2) (.int .i64 (totV k es s.vals (nextVals k j3 i s i) (nextChs k j3 i s i) i).1) (.int .i64 (totV k es s.vals (nextVals k j3 i s i) (nextChs k j3 i s i) i).2) HR0.out
  rw[hwf] at hF ⊢
  obtain⟨FF,HY⟩:=hF
  obtain⟨y0,y1,y2,y3,y4,y5⟩:=cells6 HY
  clear hwf HY
  exact bodyPost_ret (v:=.agg #[.int .i64 (s.st+1),.slice Av i cv,.slice Ac i cc,.slice Ai2 i ci2,.int .i64 (totV k es s.vals (nextVals k j3 i s i) (nextChs k j3 i s i) i).1,.int .i64 (totV k es s.vals (nextVals k j3 i s i) (nextChs k j3 i s i) i).2]) (by simp[results,Tryz.results44,go_sem,y0,y1,y2,y3,y4,y5]) rfl ⟨Av,Ac,Ai2,cv,cc,ci2,rfl,⟨FF.rd HVz.out HNV.out (by omega) (by omega),FF.rd HCz.out HNC.out (by omega) (by omega),FF.rd HRD.out HNW.out (by omega) (by omega)⟩,(HBr.out.trans (HBZ.out.mono HBr.out.size)).trans (FF.below (by omega) (by omega)),⟨HNV.out.mono (by omega),HNC.out.mono (by omega),HNW.out.mono (by omega)⟩,ownsRow_lower (FF.own (own_below HVo.out HBZ.out (fun g hg=>(HVo.out.lt g hg).2)) (by omega) (by omega)) (by omega)⟩
end Go.Proofs.YtpgbjabifhjogaaGreat

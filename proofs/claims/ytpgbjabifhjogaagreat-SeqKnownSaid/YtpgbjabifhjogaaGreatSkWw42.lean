/- Lemmas: Qso, Qsw, Qlp, Qgl, Qgb. -/
import Derived.Test.YtpgbjabifhjogaaGreatProg
import Derived.Deep.Strs
import Derived.Test.YtpgbjabifhjogaaGreatSkWw39
import Derived.Test.YtpgbjabifhjogaaGreatSkWw41
set_option linter.unusedVariables false
set_option linter.unusedSimpArgs false
set_option maxRecDepth 100000
set_option maxHeartbeats 16000000
namespace Go.Proofs.YtpgbjabifhjogaaGreat
open Go.RowKit Go.Shelf
attribute [local go_sem] Oper.semAt_some
def TillPostO (w:World) (E:Int) (V:Nat) (s:SV) (e:Ending) (w':World):Prop:=
 (E≠0∧e = .returned (.tuple #[.agg #[.int .i64 0,.slice none 0 0,.slice none 0 0,.slice none 0 0,.int .i64 0,.int .i64 0],.int .i64 E])∧Below w.heap.size w w') ∨
 (E=0∧∃Av Ac Ai cv cc ci,e = .returned (.tuple #[.agg #[.int .i64 s.st,.slice Av V cv,.slice Ac V cc,.slice Ai V ci,.int .i64 s.sm,.int .i64 s.mo],.int .i64 0])∧VIn w' s Av Ac Ai∧Below w.heap.size w w'∧(NewA w.heap.size Av∧NewA w.heap.size Ac∧NewA w.heap.size Ai)∧w'.ownsRow w.heap.size 2 1 (.slice Av V cv) V (i64s s.vals))
theorem qstepO_any (w:World) (V:Int) (A:Option Addr) (es:List Ed) (L c:Nat) (hL:es.length=L) (hL9:L≤9223372036854775807) (hE:Eds w w.heap.size A es) (k j1 j2 j3 j4:Int) (hG:acheckF k j1 j2 j3 j4 V es=0→L≤80) (p:SV) (Av Ac Ai:Option Addr) (nv nc ni cv cc ci:Nat) (hl:VLen p nv nc ni) (hi:VIn w p Av Ac Ai) (hbi:∀m∈p.inb,i64V m.2) (bv:nv≤9223372036854775807) (bi:ni≤9223372036854775807) :
  Calls Tryz.prog 19 #[.agg #[.int .i64 V,.slice A L c],.agg #[.int .u8 k,.int .i64 j1,.int .i64 j2,.int .i64 j3,.int .i64 j4],.agg #[.int .i64 p.st,.slice Av nv cv,.slice Ac nc cc,.slice Ai ni ci,.int .i64 p.sm,.int .i64 p.mo]] w (TillPostO w (stepE (acheckF k j1 j2 j3 j4 V es) V p) V.toNat (nextV k j3 es V.toNat p)):=by
 have HL:=hide hL
 have HE:=hide hE
 have HG:=hide hG
 have HVL:=hide hl
 have HVI:=hide hi
 clear hL hE hG hl hi
 obtain⟨E,hEe⟩:∃E,acheckF k j1 j2 j3 j4 V es=E:=⟨_,rfl⟩
 have HEe:=hide hEe
 clear hEe
 by_cases hE0:E=0
 rotate_left
 ·have hE1:(E == 0)=false:=by simpa using hE0
  have hE2:(E != 0)=true:=by simpa using hE0
  have HN0:=hide hE0
  have HNE:Hid (acheckF k j1 j2 j3 j4 V es≠0):=hide (by rw[HEe.out];exact hE0)
  clear hE0
  rw[show stepE (acheckF k j1 j2 j3 j4 V es) V p=E by rw[HEe.out,stepE,if_pos HN0.out]]
  go_enter Tryz.func19,Tryz.ntmps19
  go_upto_region 1 with fail
  obtain⟨u,hu⟩:∃u,(((w.alloc (.cells #[.int .i64 V,.slice A L c] 24)).alloc (.cells #[.int .u8 k,.int .i64 j1,.int .i64 j2,.int .i64 j3,.int .i64 j4] 26)).alloc (.cells #[.int .i64 p.st,.slice Av nv cv,.slice Ac nc cc,.slice Ai ni ci,.int .i64 p.sm,.int .i64 p.mo] 33)).alloc (.cells #[.int .i64 0,.slice none 0 0,.slice none 0 0,.slice none 0 0,.int .i64 0,.int .i64 0] 33)=u:=⟨_,rfl⟩
  rw[hu]
  have HU:=hide (allocs4 hu)
  clear hu
  have hzu:u.heap.size=w.heap.size+4:=HU.out.2.1
  obtain⟨c0,c1⟩:=zr2 HU.out.2.2.1
  obtain⟨d0,d1,d2,d3,d4⟩:=zr5 HU.out.2.2.2.1
  have hz0:w.heap.size<u.heap.size:=by omega
  have hz1:w.heap.size+1<u.heap.size:=by omega
  have hb0:=build_err u V A es L c HL.out hL9 ((HE.out.below HU.out.1 (Nat.le_refl _)).more HU.out.1.size) k j1 j2 j3 j4 HNE.out
  rw[HEe.out] at hb0
  have HB0:=hide hb0
  clear hb0
  go_wp2_with fail
  refine HB0.out.mono ?_
  rintro e y ⟨rfl,hy⟩
  clear c0 c1 d0 d1 d2 d3 d4 hz0 hz1
  have HY:=hide hy
  have syu:u.heap.size≤y.heap.size:=hy.size
  clear hy
  have HRow:=hide (((HY.out.block _ (by omega)).trans HU.out.2.2.2.2.2))
  have hRz:w.heap.size+1+1+1<y.heap.size:=by omega
  obtain⟨q0,q1,q2,q3,q4,q5⟩:=zr6 HRow.out
  have zq:=zf HRow.out;have f0:=zq 0;have f1:=zq 1;have f2:=zq 2;have f3:=zq 3;have f4:=zq 4;have f5:=zq 5;clear zq
  go_wp2
  obtain⟨wf,hwf⟩:∃q,(((((y.setCell ⟨w.heap.size+1+1+1,0,none⟩ (.int .i64 0)).setCell ⟨w.heap.size+1+1+1,1,none⟩ (.slice none 0 0)).setCell ⟨w.heap.size+1+1+1,2,none⟩ (.slice none 0 0)).setCell ⟨w.heap.size+1+1+1,3,none⟩ (.slice none 0 0)).setCell ⟨w.heap.size+1+1+1,4,none⟩ (.int .i64 0)).setCell ⟨w.heap.size+1+1+1,5,none⟩ (.int .i64 0)=q:=⟨_,rfl⟩
  have hF:=far6 y (w.heap.size+1+1+1) (w.heap.size+1+1+1) (.int .i64 0) (.slice none 0 0) (.slice none 0 0) (.slice none 0 0) (.int .i64 0) (.int .i64 0) HRow.out
  rw[hwf] at hF ⊢
  obtain⟨FF,HFY⟩:=hF
  obtain⟨y0,y1,y2,y3,y4,y5⟩:=cells6 HFY
  clear hwf HFY
  exact bodyPost_ret (v:=.tuple #[.agg #[.int .i64 0,.slice none 0 0,.slice none 0 0,.slice none 0 0,.int .i64 0,.int .i64 0],.int .i64 E]) (by simp[results,Tryz.results19,go_sem,y0,y1,y2,y3,y4,y5]) rfl (.inl ⟨HN0.out,rfl,(HU.out.1.trans (HY.out.mono (by omega))).trans (FF.below (by omega) (by omega))⟩)
 subst hE0
 have HEe0:=HEe.out
 obtain⟨⟨hV1,hV,hEB⟩,_⟩:=acheck_ok HEe0
 have hL5:=HG.out HEe0
 clear HEe0
 rcases hm:mayV V p with _ | _
 ·have HMV:=hide hm
  rw[show stepE (acheckF k j1 j2 j3 j4 V es) V p=4 by rw[HEe.out,stepE,if_neg (fun h=>h rfl),if_pos (.inl hm)]]
  obtain⟨V,rfl⟩:∃q:Nat,V=(q:Int):=⟨V.toNat,by omega⟩
  rw[show ((V:Int)).toNat=V from rfl]
  have hV:V≤512:=by omega
  clear hm
  go_enter Tryz.func19,Tryz.ntmps19
  go_upto_region 1 with fail
  obtain⟨u,hu⟩:∃u,(((w.alloc (.cells #[.int .i64 (V:Int),.slice A L c] 24)).alloc (.cells #[.int .u8 k,.int .i64 j1,.int .i64 j2,.int .i64 j3,.int .i64 j4] 26)).alloc (.cells #[.int .i64 p.st,.slice Av nv cv,.slice Ac nc cc,.slice Ai ni ci,.int .i64 p.sm,.int .i64 p.mo] 33)).alloc (.cells #[.int .i64 0,.slice none 0 0,.slice none 0 0,.slice none 0 0,.int .i64 0,.int .i64 0] 33)=u:=⟨_,rfl⟩
  rw[hu]
  have HU:=hide (allocs4 hu)
  clear hu
  have hzu:u.heap.size=w.heap.size+4:=HU.out.2.1
  obtain⟨c0,c1⟩:=zr2 HU.out.2.2.1
  obtain⟨d0,d1,d2,d3,d4⟩:=zr5 HU.out.2.2.2.1
  have hz0:w.heap.size<u.heap.size:=by omega
  have hz1:w.heap.size+1<u.heap.size:=by omega
  have hb0:=build_any u V hV A es L c HL.out (by omega) ((HE.out.below HU.out.1 (Nat.le_refl _)).more HU.out.1.size) k j1 j2 j3 j4
  rw[HEe.out] at hb0
  have HB0:=hide hb0
  clear hb0
  go_wp2_with fail
  refine HB0.out.mono ?_
  rintro e y (⟨hE0,_⟩ | ⟨_,m,Bm,xs,rfl,hA,hm1,hm2,hMI⟩)
  ·exact absurd rfl hE0
  obtain⟨Aof,Aow,cof,cow,hMH⟩:=hMI.has hA HE.out.wt
  have HMY:=hide hMH
  have HY:=hide hMI.below
  have syu:u.heap.size≤y.heap.size:=hMI.below.size
  clear hMH hMI hA hm1 hm2
  clear c0 c1 d0 d1 d2 d3 d4 hz0 hz1
  have c0:y.cell? ⟨w.heap.size,0,none⟩=some (.int .i64 (V:Int)):=cell_of_row _ _ 0 _ _ _ ((HY.out.block _ (by omega)).trans HU.out.2.2.1)
  have hz0:w.heap.size<y.heap.size:=by omega
  obtain⟨s0,s1,s2,s3,s4,s5⟩:=zr6 ((HY.out.block _ (by omega)).trans HU.out.2.2.2.2.1)
  have hz2:w.heap.size+1+1<y.heap.size:=by omega
  have hmy:=pmay_any y p Av Ac Ai nv nc ni cv cc ci HVL.out (HVI.out.next (HU.out.1.trans (HY.out.mono (by omega)))) (by omega) (by omega) (V:Int)
  rw[HMV.out] at hmy
  have HMY2:=hide hmy
  clear hmy
  go_wp2_with fail
  refine HMY2.out.mono ?_
  rintro e z ⟨rfl,hzz⟩
  have HZ:=hide hzz
  have szy:y.heap.size≤z.heap.size:=hzz.size
  clear hzz c0 hz0
  clear s0 s1 s2 s3 s4 s5 hz2
  have HRow:=hide (((HZ.out.block _ (by omega)).trans ((HY.out.block _ (by omega)).trans HU.out.2.2.2.2.2)))
  have hRz:w.heap.size+1+1+1<z.heap.size:=by omega
  obtain⟨q0,q1,q2,q3,q4,q5⟩:=zr6 HRow.out
  have zq:=zf HRow.out;have f0:=zq 0;have f1:=zq 1;have f2:=zq 2;have f3:=zq 3;have f4:=zq 4;have f5:=zq 5;clear zq
  go_wp2
  obtain⟨wf,hwf⟩:∃q,(((((z.setCell ⟨w.heap.size+1+1+1,0,none⟩ (.int .i64 0)).setCell ⟨w.heap.size+1+1+1,1,none⟩ (.slice none 0 0)).setCell ⟨w.heap.size+1+1+1,2,none⟩ (.slice none 0 0)).setCell ⟨w.heap.size+1+1+1,3,none⟩ (.slice none 0 0)).setCell ⟨w.heap.size+1+1+1,4,none⟩ (.int .i64 0)).setCell ⟨w.heap.size+1+1+1,5,none⟩ (.int .i64 0)=q:=⟨_,rfl⟩
  have hF:=far6 z (w.heap.size+1+1+1) (w.heap.size+1+1+1) (.int .i64 0) (.slice none 0 0) (.slice none 0 0) (.slice none 0 0) (.int .i64 0) (.int .i64 0) HRow.out
  rw[hwf] at hF ⊢
  obtain⟨FF,HFY⟩:=hF
  obtain⟨y0,y1,y2,y3,y4,y5⟩:=cells6 HFY
  clear hwf HFY
  exact bodyPost_ret (v:=.tuple #[.agg #[.int .i64 0,.slice none 0 0,.slice none 0 0,.slice none 0 0,.int .i64 0,.int .i64 0],.int .i64 4]) (by simp[results,Tryz.results19,go_sem,y0,y1,y2,y3,y4,y5]) rfl (.inl ⟨by decide,rfl,((HU.out.1.trans (HY.out.mono (by omega))).trans (HZ.out.mono (by omega))).trans (FF.below (by omega) (by omega))⟩)
 by_cases hq:p.st=2000
 ·have HMV:=hide hm
  rw[show stepE (acheckF k j1 j2 j3 j4 V es) V p=4 by rw[HEe.out,stepE,if_neg (fun h=>h rfl),if_pos (.inr hq)]]
  obtain⟨V,rfl⟩:∃q:Nat,V=(q:Int):=⟨V.toNat,by omega⟩
  rw[show ((V:Int)).toNat=V from rfl]
  have hV:V≤512:=by omega
  have HQ:=hide hq
  clear hm hq
  go_enter Tryz.func19,Tryz.ntmps19
  go_upto_region 1 with fail
  obtain⟨u,hu⟩:∃u,(((w.alloc (.cells #[.int .i64 (V:Int),.slice A L c] 24)).alloc (.cells #[.int .u8 k,.int .i64 j1,.int .i64 j2,.int .i64 j3,.int .i64 j4] 26)).alloc (.cells #[.int .i64 p.st,.slice Av nv cv,.slice Ac nc cc,.slice Ai ni ci,.int .i64 p.sm,.int .i64 p.mo] 33)).alloc (.cells #[.int .i64 0,.slice none 0 0,.slice none 0 0,.slice none 0 0,.int .i64 0,.int .i64 0] 33)=u:=⟨_,rfl⟩
  rw[hu]
  have HU:=hide (allocs4 hu)
  clear hu
  have hzu:u.heap.size=w.heap.size+4:=HU.out.2.1
  obtain⟨c0,c1⟩:=zr2 HU.out.2.2.1
  obtain⟨d0,d1,d2,d3,d4⟩:=zr5 HU.out.2.2.2.1
  have hz0:w.heap.size<u.heap.size:=by omega
  have hz1:w.heap.size+1<u.heap.size:=by omega
  have hb0:=build_any u V hV A es L c HL.out (by omega) ((HE.out.below HU.out.1 (Nat.le_refl _)).more HU.out.1.size) k j1 j2 j3 j4
  rw[HEe.out] at hb0
  have HB0:=hide hb0
  clear hb0
  go_wp2_with fail
  refine HB0.out.mono ?_
  rintro e y (⟨hE0,_⟩ | ⟨_,m,Bm,xs,rfl,hA,hm1,hm2,hMI⟩)
  ·exact absurd rfl hE0
  obtain⟨Aof,Aow,cof,cow,hMH⟩:=hMI.has hA HE.out.wt
  have HMY:=hide hMH
  have HY:=hide hMI.below
  have syu:u.heap.size≤y.heap.size:=hMI.below.size
  clear hMH hMI hA hm1 hm2
  clear c0 c1 d0 d1 d2 d3 d4 hz0 hz1
  have c0:y.cell? ⟨w.heap.size,0,none⟩=some (.int .i64 (V:Int)):=cell_of_row _ _ 0 _ _ _ ((HY.out.block _ (by omega)).trans HU.out.2.2.1)
  have hz0:w.heap.size<y.heap.size:=by omega
  obtain⟨s0,s1,s2,s3,s4,s5⟩:=zr6 ((HY.out.block _ (by omega)).trans HU.out.2.2.2.2.1)
  have hz2:w.heap.size+1+1<y.heap.size:=by omega
  have hmy:=pmay_any y p Av Ac Ai nv nc ni cv cc ci HVL.out (HVI.out.next (HU.out.1.trans (HY.out.mono (by omega)))) (by omega) (by omega) (V:Int)
  rw[HMV.out] at hmy
  have HMY2:=hide hmy
  clear hmy
  go_wp2_with fail
  refine HMY2.out.mono ?_
  rintro e z ⟨rfl,hzz⟩
  have HZ:=hide hzz
  have szy:y.heap.size≤z.heap.size:=hzz.size
  clear hzz c0 hz0
  clear s0 s1 s2 s3 s4 s5 hz2
  have s0:z.cell? ⟨w.heap.size+1+1,0,none⟩=some (.int .i64 p.st):=cell_of_row _ _ 0 _ _ _ ((HZ.out.block _ (by omega)).trans ((HY.out.block _ (by omega)).trans HU.out.2.2.2.2.1))
  have hz2:w.heap.size+1+1<z.heap.size:=by omega
  have hq:=HQ.out
  have hq1:(p.st == 2000)=true:=by simp[hq]
  have hq2:2000≤p.st:=by omega
  clear hq
  have HRow:=hide (((HZ.out.block _ (by omega)).trans ((HY.out.block _ (by omega)).trans HU.out.2.2.2.2.2)))
  have hRz:w.heap.size+1+1+1<z.heap.size:=by omega
  obtain⟨q0,q1,q2,q3,q4,q5⟩:=zr6 HRow.out
  have zq:=zf HRow.out;have f0:=zq 0;have f1:=zq 1;have f2:=zq 2;have f3:=zq 3;have f4:=zq 4;have f5:=zq 5;clear zq
  go_wp2
  obtain⟨wf,hwf⟩:∃q,(((((z.setCell ⟨w.heap.size+1+1+1,0,none⟩ (.int .i64 0)).setCell ⟨w.heap.size+1+1+1,1,none⟩ (.slice none 0 0)).setCell ⟨w.heap.size+1+1+1,2,none⟩ (.slice none 0 0)).setCell ⟨w.heap.size+1+1+1,3,none⟩ (.slice none 0 0)).setCell ⟨w.heap.size+1+1+1,4,none⟩ (.int .i64 0)).setCell ⟨w.heap.size+1+1+1,5,none⟩ (.int .i64 0)=q:=⟨_,rfl⟩
  have hF:=far6 z (w.heap.size+1+1+1) (w.heap.size+1+1+1) (.int .i64 0) (.slice none 0 0) (.slice none 0 0) (.slice none 0 0) (.int .i64 0) (.int .i64 0) HRow.out
  rw[hwf] at hF ⊢
  obtain⟨FF,HFY⟩:=hF
  obtain⟨y0,y1,y2,y3,y4,y5⟩:=cells6 HFY
  clear hwf HFY
  exact bodyPost_ret (v:=.tuple #[.agg #[.int .i64 0,.slice none 0 0,.slice none 0 0,.slice none 0 0,.int .i64 0,.int .i64 0],.int .i64 4]) (by simp[results,Tryz.results19,go_sem,y0,y1,y2,y3,y4,y5]) rfl (.inl ⟨by decide,rfl,((HU.out.1.trans (HY.out.mono (by omega))).trans (HZ.out.mono (by omega))).trans (FF.below (by omega) (by omega))⟩)
 have HMV:=hide hm
 obtain⟨g1,g2,g3,g4,g5,hok⟩:=mayV_ok hm hbi
 rw[show stepE (acheckF k j1 j2 j3 j4 V es) V p=0 by rw[HEe.out,stepE,if_neg (fun h=>h rfl),if_neg (by rw[hm];simp[hq])]]
 obtain⟨V,rfl⟩:∃q:Nat,V=(q:Int):=⟨V.toNat,by omega⟩
 rw[show ((V:Int)).toNat=V from rfl]
 have hV:V≤512:=by omega
 rw[show ((V:Int)).toNat=V from rfl] at hok
 have HOK:=hide hok
 obtain⟨v1,v2,v3⟩:=HVL.out
 obtain rfl:nv=V:=by omega
 obtain rfl:nc=nv:=by omega
 obtain rfl:ni=nc:=by omega
 clear hm hok g1 g2 g3 v1 v2 v3
 go_enter Tryz.func19,Tryz.ntmps19
 go_upto_region 1 with fail
 obtain⟨u,hu⟩:∃u,(((w.alloc (.cells #[.int .i64 (ni:Int),.slice A L c] 24)).alloc (.cells #[.int .u8 k,.int .i64 j1,.int .i64 j2,.int .i64 j3,.int .i64 j4] 26)).alloc (.cells #[.int .i64 p.st,.slice Av ni cv,.slice Ac ni cc,.slice Ai ni ci,.int .i64 p.sm,.int .i64 p.mo] 33)).alloc (.cells #[.int .i64 0,.slice none 0 0,.slice none 0 0,.slice none 0 0,.int .i64 0,.int .i64 0] 33)=u:=⟨_,rfl⟩
 rw[hu]
 have HU:=hide (allocs4 hu)
 clear hu
 have hzu:u.heap.size=w.heap.size+4:=HU.out.2.1
 obtain⟨c0,c1⟩:=zr2 HU.out.2.2.1
 obtain⟨d0,d1,d2,d3,d4⟩:=zr5 HU.out.2.2.2.1
 have hz0:w.heap.size<u.heap.size:=by omega
 have hz1:w.heap.size+1<u.heap.size:=by omega
 have hb0:=build_any u ni hV A es L c HL.out (by omega) ((HE.out.below HU.out.1 (Nat.le_refl _)).more HU.out.1.size) k j1 j2 j3 j4
 rw[HEe.out] at hb0
 have HB0:=hide hb0
 clear hb0
 go_wp2_with fail
 refine HB0.out.mono ?_
 rintro e y (⟨hE0,_⟩ | ⟨_,m,Bm,xs,rfl,hA,hm1,hm2,hMI⟩)
 ·exact absurd rfl hE0
 obtain⟨Aof,Aow,cof,cow,hMH⟩:=hMI.has hA HE.out.wt
 have HMY:=hide hMH
 have HY:=hide hMI.below
 have syu:u.heap.size≤y.heap.size:=hMI.below.size
 clear hMH hMI hA hm1 hm2
 clear c0 c1 d0 d1 d2 d3 d4 hz0 hz1
 have c0:y.cell? ⟨w.heap.size,0,none⟩=some (.int .i64 (ni:Int)):=cell_of_row _ _ 0 _ _ _ ((HY.out.block _ (by omega)).trans HU.out.2.2.1)
 have hz0:w.heap.size<y.heap.size:=by omega
 obtain⟨s0,s1,s2,s3,s4,s5⟩:=zr6 ((HY.out.block _ (by omega)).trans HU.out.2.2.2.2.1)
 have hz2:w.heap.size+1+1<y.heap.size:=by omega
 have hmy:=pmay_any y p Av Ac Ai ni ni ni cv cc ci HVL.out (HVI.out.next (HU.out.1.trans (HY.out.mono (by omega)))) (by omega) (by omega) (ni:Int)
 rw[HMV.out] at hmy
 have HMY2:=hide hmy
 clear hmy
 go_wp2_with fail
 refine HMY2.out.mono ?_
 rintro e z ⟨rfl,hzz⟩
 have HZ:=hide hzz
 have szy:y.heap.size≤z.heap.size:=hzz.size
 clear hzz c0 hz0
 clear s0 s1 s2 s3 s4 s5 hz2
 have s0:z.cell? ⟨w.heap.size+1+1,0,none⟩=some (.int .i64 p.st):=cell_of_row _ _ 0 _ _ _ ((HZ.out.block _ (by omega)).trans ((HY.out.block _ (by omega)).trans HU.out.2.2.2.2.1))
 have hz2:w.heap.size+1+1<z.heap.size:=by omega
 have hq1:(p.st == 2000)=false:=by simpa using hq
 have hq2:¬(2000≤p.st):=by omega
 clear hq s0 hz2
 obtain⟨s0,s1,s2,s3,s4,s5⟩:=zr6 ((HZ.out.block _ (by omega)).trans ((HY.out.block _ (by omega)).trans HU.out.2.2.2.2.1))
 have hz2:w.heap.size+1+1<z.heap.size:=by omega
 go_wp2_with fail
 refine (mnextO_any z m ni A L c k j1 j2 j3 j4 es xs Aof Aow cof cow (HMY.out.next HZ.out) hV HL.out hL5 hEB p HOK.out Av Ac Ai cv cc ci ((HVI.out.next (HU.out.1.trans (HY.out.mono (by omega)))).next HZ.out) g4 g5).mono ?_
 rintro e z3 ⟨Av2,Ac2,Ai2,cv2,cc2,ci2,rfl,hi2,hb2,⟨n1,n2,n3⟩,how⟩
 have HOW:=hide how
 clear how
 have HI2:=hide hi2
 have HZ3:=hide hb2
 have HN:=hide (And.intro n1 (And.intro n2 n3))
 have sz3:z.heap.size≤z3.heap.size:=hb2.size
 clear hi2 hb2 n1 n2 n3
 clear s0 s1 s2 s3 s4 s5 hz2
 have HRow:=hide ((HZ3.out.block _ (by omega)).trans ((HZ.out.block _ (by omega)).trans ((HY.out.block _ (by omega)).trans HU.out.2.2.2.2.2)))
 have hRz:w.heap.size+1+1+1<z3.heap.size:=by omega
 obtain⟨q0,q1,q2,q3,q4,q5⟩:=zr6 HRow.out
 have zq:=zf HRow.out;have f0:=zq 0;have f1:=zq 1;have f2:=zq 2;have f3:=zq 3;have f4:=zq 4;have f5:=zq 5;clear zq
 go_wp2
 obtain⟨wf,hwf⟩:∃q,(((((z3.setCell ⟨w.heap.size+1+1+1,0,none⟩ (.int .i64 (nextV k j3 es ni p).st)).setCell ⟨w.heap.size+1+1+1,1,none⟩ (.slice Av2 ni cv2)).setCell ⟨w.heap.size+1+1+1,2,none⟩ (.slice Ac2 ni cc2)).setCell ⟨w.heap.size+1+1+1,3,none⟩ (.slice Ai2 ni ci2)).setCell ⟨w.heap.size+1+1+1,4,none⟩ (.int .i64 (nextV k j3 es ni p).sm)).setCell ⟨w.heap.size+1+1+1,5,none⟩ (.int .i64 (nextV k j3 es ni p).mo)=q:=⟨_,rfl⟩
 have hF:=far6 z3 (w.heap.size+1+1+1) (w.heap.size+1+1+1) (.int .i64 (nextV k j3 es ni p).st) (.slice Av2 ni cv2) (.slice Ac2 ni cc2) (.slice Ai2 ni ci2) (.int .i64 (nextV k j3 es ni p).sm) (.int .i64 (nextV k j3 es ni p).mo) HRow.out
 rw[hwf] at hF ⊢
 obtain⟨FF,HFY⟩:=hF
 obtain⟨y0,y1,y2,y3,y4,y5⟩:=cells6 HFY
 clear hwf HFY
 exact bodyPost_ret (v:=.tuple #[.agg #[.int .i64 (nextV k j3 es ni p).st,.slice Av2 ni cv2,.slice Ac2 ni cc2,.slice Ai2 ni ci2,.int .i64 (nextV k j3 es ni p).sm,.int .i64 (nextV k j3 es ni p).mo],.int .i64 0]) (by simp[results,Tryz.results19,go_sem,y0,y1,y2,y3,y4,y5]) rfl (.inr ⟨rfl,Av2,Ac2,Ai2,cv2,cc2,ci2,rfl,⟨FF.rd HI2.out.vals HN.out.1 (by omega) (by omega),FF.rd HI2.out.chg HN.out.2.1 (by omega) (by omega),FF.rd HI2.out.inb HN.out.2.2 (by omega) (by omega)⟩,(((HU.out.1.trans (HY.out.mono (by omega))).trans (HZ.out.mono (by omega))).trans (HZ3.out.mono (by omega))).trans (FF.below (by omega) (by omega)),⟨HN.out.1.mono (by omega),HN.out.2.1.mono (by omega),HN.out.2.2.mono (by omega)⟩,ownsRow_lower (FF.own HOW.out (by omega) (by omega)) (by omega)⟩)
attribute [local go_sem] Oper.semAt_some
def fewB (n1 n2 n3:Nat):Bool:=decide (n1≤20) && decide (n2≤20) && decide (n3≤20)
theorem fewB_le {n1 n2 n3:Nat} (h:fewB n1 n2 n3=true):n1≤20∧n2≤20∧n3≤20:=by
 unfold fewB at h
 simp only[Bool.and_eq_true,decide_eq_true_eq] at h
 exact⟨h.1.1,h.1.2,h.2⟩
theorem sameV_refl (p:SV):sameV p p=true:=by simp[sameV,eqL]
theorem few_any (w:World) (st sm mo:Int) (A1 A2 A3:Option Addr) (n1 n2 n3 c1 c2 c3:Nat):Calls Tryz.prog 18 #[.agg #[.int .i64 st,.slice A1 n1 c1,.slice A2 n2 c2,.slice A3 n3 c3,.int .i64 sm,.int .i64 mo]] w fun e w'=>e = .returned (.bool (fewB n1 n2 n3))∧Below w.heap.size w w':=by
 obtain⟨u,hu⟩:∃u,w.alloc (.cells #[.int .i64 st,.slice A1 n1 c1,.slice A2 n2 c2,.slice A3 n3 c3,.int .i64 sm,.int .i64 mo] 33)=u:=⟨_,rfl⟩
 have HB:=hide (show Below w.heap.size w u by rw[←hu];exact (Below.refl _ _).alloc (Nat.le_refl _) _)
 have hS:u.heap[w.heap.size]?=some (.cells #[.int .i64 st,.slice A1 n1 c1,.slice A2 n2 c2,.slice A3 n3 c3,.int .i64 sm,.int .i64 mo] 33):=by rw[←hu];exact heap_alloc_last _ _
 have hz:w.heap.size<u.heap.size:=by rw[←hu];simp
 have s1:u.cell? ⟨w.heap.size,1,none⟩=some (.slice A1 n1 c1):=cell_of_row _ _ 1 _ _ _ hS
 have s2:u.cell? ⟨w.heap.size,2,none⟩=some (.slice A2 n2 c2):=cell_of_row _ _ 2 _ _ _ hS
 have s3:u.cell? ⟨w.heap.size,3,none⟩=some (.slice A3 n3 c3):=cell_of_row _ _ 3 _ _ _ hS
 have HU:=hide hu
 clear hu hS
 by_cases h1:n1≤20
 rotate_left
 ·have h1':¬((n1:Int)≤20):=by omega
  have HV:Hid (fewB n1 n2 n3=false):=hide (by simp[fewB];omega)
  go_enter Tryz.func18,Tryz.ntmps18
  go_upto_region 1 with fail
  rw[HU.out]
  go_wp2
  go_ret
  exact⟨ret_b HV.out.symm,HB.out⟩
 by_cases h2:n2≤20
 rotate_left
 ·have h1':((n1:Int)≤20):=by omega
  have h2':¬((n2:Int)≤20):=by omega
  have HV:Hid (fewB n1 n2 n3=false):=hide (by simp[fewB];omega)
  go_enter Tryz.func18,Tryz.ntmps18
  go_upto_region 1 with fail
  rw[HU.out]
  go_wp2
  go_ret
  exact⟨ret_b HV.out.symm,HB.out⟩
 by_cases h3:n3≤20
 rotate_left
 ·have h1':((n1:Int)≤20):=by omega
  have h2':((n2:Int)≤20):=by omega
  have h3':¬((n3:Int)≤20):=by omega
  have HV:Hid (fewB n1 n2 n3=false):=hide (by simp[fewB];omega)
  go_enter Tryz.func18,Tryz.ntmps18
  go_upto_region 1 with fail
  rw[HU.out]
  go_wp2
  go_ret
  exact⟨ret_b HV.out.symm,HB.out⟩
 have h1':((n1:Int)≤20):=by omega
 have h2':((n2:Int)≤20):=by omega
 have h3':((n3:Int)≤20):=by omega
 have HV:Hid (fewB n1 n2 n3=true):=hide (by simp[fewB];omega)
 go_enter Tryz.func18,Tryz.ntmps18
 go_upto_region 1 with fail
 rw[HU.out]
 go_wp2
 go_ret
 exact⟨ret_b HV.out.symm,HB.out⟩
theorem seqsame_main (w:World) (p1:SV) (Av1 Ac1 Ai1:Option Addr) (nv1 nc1 ni1 cv1 cc1 ci1:Nat) (hl1:VLen p1 nv1 nc1 ni1) (hi1:VIn w p1 Av1 Ac1 Ai1) (p2:SV) (Av2 Ac2 Ai2:Option Addr) (nv2 nc2 ni2 cv2 cc2 ci2:Nat) (hl2:VLen p2 nv2 nc2 ni2) (hi2:VIn w p2 Av2 Ac2 Ai2) :
  Calls Tryz.prog 7 #[.agg #[.int .i64 p1.st,.slice Av1 nv1 cv1,.slice Ac1 nc1 cc1,.slice Ai1 ni1 ci1,.int .i64 p1.sm,.int .i64 p1.mo],.agg #[.int .i64 p2.st,.slice Av2 nv2 cv2,.slice Ac2 nc2 cc2,.slice Ai2 ni2 ci2,.int .i64 p2.sm,.int .i64 p2.mo]] w fun e w'=>e = .returned (.bool true)∧Below w.heap.size w w':=by
 obtain⟨u,hu⟩:∃v,(w.alloc (.cells #[.int .i64 p1.st,.slice Av1 nv1 cv1,.slice Ac1 nc1 cc1,.slice Ai1 ni1 ci1,.int .i64 p1.sm,.int .i64 p1.mo] 33)).alloc (.cells #[.int .i64 p2.st,.slice Av2 nv2 cv2,.slice Ac2 nc2 cc2,.slice Ai2 ni2 ci2,.int .i64 p2.sm,.int .i64 p2.mo] 33)=v:=⟨_,rfl⟩
 have HU:=hide (allocs2 hu)
 have hzu:u.heap.size=w.heap.size+2:=HU.out.2.1
 have HV:=hide hu
 have HI1:=hide (hi1.next HU.out.1)
 have HI2:=hide (hi2.next HU.out.1)
 have HL1:=hide hl1
 have HL2:=hide hl2
 clear hu hi1 hi2 hl1 hl2
 obtain⟨x0,x1,x2,x3,x4,x5⟩:=zr6 HU.out.2.2.1
 obtain⟨y0,y1,y2,y3,y4,y5⟩:=zr6 HU.out.2.2.2
 rcases hf1:fewB nv1 nc1 ni1 with _ | _
 ·have HF1:=hide hf1
  go_enter Tryz.func7,Tryz.ntmps7
  have hf:=few_any u p1.st p1.sm p1.mo Av1 Ac1 Ai1 nv1 nc1 ni1 cv1 cc1 ci1
  rw[show fewB nv1 nc1 ni1=false from HF1.out] at hf
  have HF:=hide hf
  clear hf
  go_wp2_with fail
  rw[HV.out]
  refine HF.out.mono ?_
  rintro e v1 ⟨rfl,hb⟩
  have HB:=hide hb
  clear hb
  go_wp2_with fail
  refine (works_any _).mono ?_
  rintro e zz ⟨rfl,hzz⟩
  have HZ:=hide ((HU.out.1.trans (HB.out.mono (by omega))).trans (hzz.mono (by have:=HB.out.size;omega)))
  clear hzz
  go_wp2
  go_ret
  exact⟨rfl,HZ.out⟩
 rcases hf2:fewB nv2 nc2 ni2 with _ | _
 ·have HF1:=hide hf1
  have HF2:=hide hf2
  go_enter Tryz.func7,Tryz.ntmps7
  have hf:=few_any u p1.st p1.sm p1.mo Av1 Ac1 Ai1 nv1 nc1 ni1 cv1 cc1 ci1
  rw[show fewB nv1 nc1 ni1=true from HF1.out] at hf
  have HF:=hide hf
  clear hf
  go_wp2_with fail
  rw[HV.out]
  refine HF.out.mono ?_
  rintro e v1 ⟨rfl,hb⟩
  have HB:=hide hb
  have sv1:u.heap.size≤v1.heap.size:=hb.size
  clear hb
  clear x0 y0 x1 y1 x2 y2 x3 y3 x4 y4 x5 y5
  obtain⟨y0,y1,y2,y3,y4,y5⟩:=zr6 ((HB.out.block _ (by omega)).trans HU.out.2.2.2)
  have zq:w.heap.size+1<v1.heap.size:=by omega
  have hf:=few_any v1 p2.st p2.sm p2.mo Av2 Ac2 Ai2 nv2 nc2 ni2 cv2 cc2 ci2
  rw[show fewB nv2 nc2 ni2=false from HF2.out] at hf
  have HF:=hide hf
  clear hf
  go_wp2_with fail
  refine HF.out.mono ?_
  rintro e v2 ⟨rfl,hb⟩
  have HB2:=hide hb
  clear hb
  go_wp2_with fail
  refine (works_any _).mono ?_
  rintro e zz ⟨rfl,hzz⟩
  have HZ:=hide (((HU.out.1.trans (HB.out.mono (by omega))).trans (HB2.out.mono (by omega))).trans (hzz.mono (by have:=HB2.out.size;omega)))
  clear hzz
  go_wp2
  go_ret
  exact⟨rfl,HZ.out⟩
 have HF1:=hide hf1
 have HF2:=hide hf2
 obtain⟨b1,b2,b3⟩:=fewB_le hf1
 obtain⟨b4,b5,b6⟩:=fewB_le hf2
 clear hf1 hf2
 go_enter Tryz.func7,Tryz.ntmps7
 have hf:=few_any u p1.st p1.sm p1.mo Av1 Ac1 Ai1 nv1 nc1 ni1 cv1 cc1 ci1
 rw[show fewB nv1 nc1 ni1=true from HF1.out] at hf
 have HF:=hide hf
 clear hf
 go_wp2_with fail
 rw[HV.out]
 refine HF.out.mono ?_
 rintro e v1 ⟨rfl,hb⟩
 have HB:=hide hb
 have sv1:u.heap.size≤v1.heap.size:=hb.size
 clear hb
 clear x0 y0 x1 y1 x2 y2 x3 y3 x4 y4 x5 y5
 obtain⟨y0,y1,y2,y3,y4,y5⟩:=zr6 ((HB.out.block _ (by omega)).trans HU.out.2.2.2)
 have zq:w.heap.size+1<v1.heap.size:=by omega
 have hf:=few_any v1 p2.st p2.sm p2.mo Av2 Ac2 Ai2 nv2 nc2 ni2 cv2 cc2 ci2
 rw[show fewB nv2 nc2 ni2=true from HF2.out] at hf
 have HF:=hide hf
 clear hf
 go_wp2_with fail
 refine HF.out.mono ?_
 rintro e v2 ⟨rfl,hb⟩
 have HB2:=hide hb
 have sv2:v1.heap.size≤v2.heap.size:=hb.size
 clear hb
 clear y0 y1 y2 y3 y4 y5
 obtain⟨x0,x1,x2,x3,x4,x5⟩:=zr6 ((HB2.out.block _ (by omega)).trans ((HB.out.block _ (by omega)).trans HU.out.2.2.1))
 obtain⟨y0,y1,y2,y3,y4,y5⟩:=zr6 ((HB2.out.block _ (by omega)).trans ((HB.out.block _ (by omega)).trans HU.out.2.2.2))
 have zq1:w.heap.size<v2.heap.size:=by omega
 have zq2:w.heap.size+1<v2.heap.size:=by omega
 have HJ1:=hide ((HI1.out.next HB.out).next HB2.out)
 have HJ2:=hide ((HI2.out.next HB.out).next HB2.out)
 go_upto_region 3 with fail
 rcases hq:sameV p1 p2 with _ | _
 ·have HQ:=hide hq
  clear hq
  refine wp_region_held_drew (S:=Kept v2) (by kernel_rfl) (Kept.drew v2) (fun hS0=>?_)
  refine tka 0 14 ?_
  refine tka 1 15 ?_
  refine tka 3 17 ?_
  refine tka 4 18 ?_
  refine ck 2 16 fun K hK=>?_
  go_simp
  have hc:=qsame_any v2.drew p1 Av1 Ac1 Ai1 nv1 nc1 ni1 cv1 cc1 ci1 HL1.out (HJ1.out.next ((Below.refl v2.heap.size v2).drew)) p2 Av2 Ac2 Ai2 nv2 nc2 ni2 cv2 cc2 ci2 HL2.out (HJ2.out.next ((Below.refl v2.heap.size v2).drew)) (by omega) (by omega) (by omega)
  rw[HQ.out] at hc
  refine hc.mono ?_
  rintro e z1 ⟨rfl,hz1⟩
  have hS1:Kept v2 z1:=hS0.below (Nat.le_refl _) hz1
  have HZ1:Hid (Below v2.heap.size v2 z1):=hide (below_undrew hz1)
  have sz1:v2.heap.size≤z1.heap.size:=hz1.size
  clear hz1
  go_wp2_with fail
  refine hK.out _ _ hS1 (fun hSn=>?_)
  clear hK K
  try simp only[zqd,zqe,zqf]
  refine ck 5 19 fun K hK=>?_
  go_simp
  have hc:=qrsame_any z1 p1 Av1 Ac1 Ai1 nv1 nc1 ni1 cv1 cc1 ci1 HL1.out (HJ1.out.next HZ1.out) p2 Av2 Ac2 Ai2 nv2 nc2 ni2 cv2 cc2 ci2 HL2.out (HJ2.out.next HZ1.out) (by omega) (by omega) (by omega)
  rw[HQ.out] at hc
  refine hc.mono ?_
  rintro e z2 ⟨rfl,hz2⟩
  have hS2:Kept v2 z2:=hS1.below sz1 hz2
  have HZ2:=hide (HZ1.out.trans (hz2.mono sz1))
  have sz2:v2.heap.size≤z2.heap.size:=HZ2.out.size
  clear hz2
  go_wp2_with fail
  refine hK.out _ _ hS2 (fun hSn=>?_)
  clear hK K
  try simp only[zqd,zqe,zqf]
  refine tka 6 20 ?_
  refine tka 7 21 ?_
  refine tka 8 22 ?_
  refine tka 9 23 ?_
  refine ck 10 24 fun K hK=>?_
  go_simp
  have hc:=qsame_any z2 p1 Av1 Ac1 Ai1 nv1 nc1 ni1 cv1 cc1 ci1 HL1.out (HJ1.out.next HZ2.out) p1 Av1 Ac1 Ai1 nv1 nc1 ni1 cv1 cc1 ci1 HL1.out (HJ1.out.next HZ2.out) (by omega) (by omega) (by omega)
  rw[sameV_refl] at hc
  refine hc.mono ?_
  rintro e z3 ⟨rfl,hz3⟩
  have hS3:Kept v2 z3:=hS2.below sz2 hz3
  have HZ3:=hide (HZ2.out.trans (hz3.mono sz2))
  have sz3:v2.heap.size≤z3.heap.size:=HZ3.out.size
  clear hz3
  go_wp2_with fail
  refine hK.out _ _ hS3 (fun hSn=>?_)
  clear hK K
  try simp only[zqd,zqe,zqf]
  refine tka 11 25 ?_
  refine tka 12 26 ?_
  refine ck 13 27 fun K hK=>?_
  go_simp
  refine (works_any _).mono ?_
  rintro e z4 ⟨rfl,hz4⟩
  have hS4:Kept v2 z4:=hS3.below sz3 hz4
  have HZ4:=hide (HZ3.out.trans (hz4.mono sz3))
  clear hz4
  go_wp2_with fail
  refine hK.out _ _ hS4 (fun hSn=>?_)
  clear hK K
  try simp only[zqd,zqe,zqf]
  refine tka 14 28 ?_
  refine tka 15 4 ?_
  refine wpAnyH_done (by kernel_rfl) ?_ _
  clear hS0 hSn hS1 hS2 hS3 hS4
  have HZ:=hide (((HU.out.1.trans (HB.out.mono (by omega))).trans (HB2.out.mono (by omega))).trans (HZ4.out.mono (by omega)))
  go_wp2
  go_ret
  exact⟨rfl,HZ.out⟩
 have HQ:=hide hq
 clear hq
 refine wp_region_held_drew (S:=Kept v2) (by kernel_rfl) (Kept.drew v2) (fun hS0=>?_)
 refine tka 0 14 ?_
 refine tka 1 15 ?_
 refine tka 3 17 ?_
 refine tka 4 18 ?_
 refine ck 2 16 fun K hK=>?_
 go_simp
 have hc:=qsame_any v2.drew p1 Av1 Ac1 Ai1 nv1 nc1 ni1 cv1 cc1 ci1 HL1.out (HJ1.out.next ((Below.refl v2.heap.size v2).drew)) p2 Av2 Ac2 Ai2 nv2 nc2 ni2 cv2 cc2 ci2 HL2.out (HJ2.out.next ((Below.refl v2.heap.size v2).drew)) (by omega) (by omega) (by omega)
 rw[HQ.out] at hc
 refine hc.mono ?_
 rintro e z1 ⟨rfl,hz1⟩
 have hS1:Kept v2 z1:=hS0.below (Nat.le_refl _) hz1
 have HZ1:Hid (Below v2.heap.size v2 z1):=hide (below_undrew hz1)
 have sz1:v2.heap.size≤z1.heap.size:=hz1.size
 clear hz1
 go_wp2_with fail
 refine hK.out _ _ hS1 (fun hSn=>?_)
 clear hK K
 try simp only[zqd,zqe,zqf]
 refine ck 5 19 fun K hK=>?_
 go_simp
 have hc:=qrsame_any z1 p1 Av1 Ac1 Ai1 nv1 nc1 ni1 cv1 cc1 ci1 HL1.out (HJ1.out.next HZ1.out) p2 Av2 Ac2 Ai2 nv2 nc2 ni2 cv2 cc2 ci2 HL2.out (HJ2.out.next HZ1.out) (by omega) (by omega) (by omega)
 rw[HQ.out] at hc
 refine hc.mono ?_
 rintro e z2 ⟨rfl,hz2⟩
 have hS2:Kept v2 z2:=hS1.below sz1 hz2
 have HZ2:=hide (HZ1.out.trans (hz2.mono sz1))
 have sz2:v2.heap.size≤z2.heap.size:=HZ2.out.size
 clear hz2
 go_wp2_with fail
 refine hK.out _ _ hS2 (fun hSn=>?_)
 clear hK K
 try simp only[zqd,zqe,zqf]
 refine tka 6 20 ?_
 refine tka 7 21 ?_
 refine tka 8 22 ?_
 refine tka 9 23 ?_
 refine ck 10 24 fun K hK=>?_
 go_simp
 have hc:=qsame_any z2 p1 Av1 Ac1 Ai1 nv1 nc1 ni1 cv1 cc1 ci1 HL1.out (HJ1.out.next HZ2.out) p1 Av1 Ac1 Ai1 nv1 nc1 ni1 cv1 cc1 ci1 HL1.out (HJ1.out.next HZ2.out) (by omega) (by omega) (by omega)
 rw[sameV_refl] at hc
 refine hc.mono ?_
 rintro e z3 ⟨rfl,hz3⟩
 have hS3:Kept v2 z3:=hS2.below sz2 hz3
 have HZ3:=hide (HZ2.out.trans (hz3.mono sz2))
 have sz3:v2.heap.size≤z3.heap.size:=HZ3.out.size
 clear hz3
 go_wp2_with fail
 refine hK.out _ _ hS3 (fun hSn=>?_)
 clear hK K
 try simp only[zqd,zqe,zqf]
 refine tka 11 25 ?_
 refine tka 12 26 ?_
 refine ck 13 27 fun K hK=>?_
 go_simp
 refine (works_any _).mono ?_
 rintro e z4 ⟨rfl,hz4⟩
 have hS4:Kept v2 z4:=hS3.below sz3 hz4
 have HZ4:=hide (HZ3.out.trans (hz4.mono sz3))
 clear hz4
 go_wp2_with fail
 refine hK.out _ _ hS4 (fun hSn=>?_)
 clear hK K
 try simp only[zqd,zqe,zqf]
 refine tka 14 28 ?_
 refine tka 15 4 ?_
 refine wpAnyH_done (by kernel_rfl) ?_ _
 clear hS0 hSn hS1 hS2 hS3 hS4
 have HZ:=hide (((HU.out.1.trans (HB.out.mono (by omega))).trans (HB2.out.mono (by omega))).trans (HZ4.out.mono (by omega)))
 go_wp2
 go_ret
 exact⟨rfl,HZ.out⟩
attribute [local go_sem] Oper.semAt_some
theorem TillPostO.val {w:World} {E:Int} {V:Nat} {s:SV} {e:Ending} {w':World} (h:TillPostO w E V s e w') (hs:E=0→OkS V s∧V≤512) :
  ∃Av Ac Ai nv nc ni cv cc ci,e = .returned (.tuple #[.agg #[.int .i64 (resV E s).st,.slice Av nv cv,.slice Ac nc cc,.slice Ai ni ci,.int .i64 (resV E s).sm,.int .i64 (resV E s).mo],.int .i64 E])∧VLen (resV E s) nv nc ni∧VIn w' (resV E s) Av Ac Ai∧Below w.heap.size w w'∧(nv≤512∧nc≤512∧ni≤512)∧w'.ownsRow w.heap.size 2 1 (.slice Av nv cv) nv (i64s (resV E s).vals):=by
 rcases h with ⟨h,he,hb⟩ | ⟨h,Av,Ac,Ai,cv,cc,ci,he,hin,hb,_,ho⟩
 ·rw[show resV E s=zeroV from if_neg h]
  exact⟨none,none,none,0,0,0,0,0,0,he,⟨rfl,rfl,rfl⟩,⟨fun hn=>absurd rfl hn,fun hn=>absurd rfl hn,fun hn=>absurd rfl hn⟩,hb,⟨by omega,by omega,by omega⟩,World.ownsRow_nil _ _ _ _⟩
 subst h
 rw[show resV 0 s=s from if_pos rfl]
 have hk:=hs rfl
 exact⟨Av,Ac,Ai,V,V,V,cv,cc,ci,he,⟨hk.1.lv,hk.1.lc,hk.1.li⟩,hin,hb,⟨hk.2,hk.2,hk.2⟩,ho⟩
theorem own_adrQ {w:World} {base n c:Nat} {e:TypeId} {A:Option Addr} {xs:List Value} (h:w.ownsRow base e 1 (.slice A n c) n xs) (hn:0<n):∃g,A=some ⟨g,0,none⟩∧base≤g∧g<w.heap.size:=by
 rcases h.2 with ⟨hv,_⟩ | ⟨g,cap,cur,hv,hgb,hc,_⟩
 ·injection hv with _ h2
  omega
 injection hv with h1
 exact⟨g,h1,hgb,(Array.getElem?_eq_some_iff.1 hc).1⟩
theorem i64s_oneQ (l:List Int):∀u∈i64s l,u.oneCell'=true:=fun u hu=>by
 obtain⟨x,_,rfl⟩:=List.mem_map.1 hu
 rfl
theorem bools_oneQ (l:List Bool):∀u∈bools l,u.oneCell'=true:=fun u hu=>by
 obtain⟨x,_,rfl⟩:=List.mem_map.1 hu
 rfl
theorem seqstep_main (w:World) (V:Int) (A:Option Addr) (es:List Ed) (c:Nat) (hV1:-9223372036854775808≤V) (hV2:V≤9223372036854775807) (hE:Eds w w.heap.size A es) (hl:es.length≤c) (hc:c≤9223372036854775807) (hB:∀e∈es,edB e) (k j1 j2 j3 j4:Int) (hk:0≤k∧k≤255) (hj1:i64B j1) (hj2:i64B j2) (hj3:i64B j3) (hj4:i64B j4) (p:SV) (Av Ac Ai:Option Addr) (nv nc ni cv cc ci:Nat) (hvl:VLen p nv nc ni) (hvi:VIn w p Av Ac Ai) (hbi:∀m∈p.inb,i64V m.2) (hbl:nv≤9223372036854775807∧nc≤9223372036854775807∧ni≤9223372036854775807) :
  Calls Tryz.prog 5 #[.agg #[.int .i64 V,.slice A es.length c],.agg #[.int .u8 k,.int .i64 j1,.int .i64 j2,.int .i64 j3,.int .i64 j4],.agg #[.int .i64 p.st,.slice Av nv cv,.slice Ac nc cc,.slice Ai ni ci,.int .i64 p.sm,.int .i64 p.mo]] w fun e w'=>e = .returned (.bool true)∧Below w.heap.size w w':=by
 obtain⟨i0,i0i,i0z,i0s,i0b⟩:=info_parts (show (Tryz.prog.info? 2).map (fun i=>(i.zero,i.size,i.bytes))=some (some (.int .i64 0),1,8) by kernel_rfl)
 obtain⟨b0,b0i,b0z,b0s,b0b⟩:=info_parts (show (Tryz.prog.info? 4).map (fun i=>(i.zero,i.size,i.bytes))=some (some (.bool false),1,1) by kernel_rfl)
 obtain⟨m0,m0i,m0z,m0s,m0b⟩:=info_parts (show (Tryz.prog.info? 76).map (fun i=>(i.zero,i.size,i.bytes))=some (some (.agg #[.bool false,.int .i64 0]),2,16) by kernel_rfl)
 have HE:=hide hE
 obtain⟨L,hL⟩:∃q,es.length=q:=⟨_,rfl⟩
 rw[hL] at hl ⊢
 have HL:=hide hL
 have HVL:=hide hvl
 have HVI:=hide hvi
 have HBI:=hide hbi
 clear hL hE hB hvl hvi hbi
 obtain⟨u,hu⟩:∃u,((w.alloc (.cells #[.int .i64 V,.slice A L c] 24)).alloc (.cells #[.int .u8 k,.int .i64 j1,.int .i64 j2,.int .i64 j3,.int .i64 j4] 26)).alloc (.cells #[.int .i64 p.st,.slice Av nv cv,.slice Ac nc cc,.slice Ai ni ci,.int .i64 p.sm,.int .i64 p.mo] 33)=u:=⟨_,rfl⟩
 have HU:=hide (allocs3 hu)
 have HUe:=hide hu
 clear hu
 have hzu:u.heap.size=w.heap.size+3:=HU.out.2.1
 have K0:=hide (Below.refl u.heap.size u)
 have HIu:=hide (HVI.out.next HU.out.1)
 rcases hv:lit12 V es with _ | _
 ·have HV:=hide hv
  have hlq:=lightq_any u V A es L c HL.out (by omega) ((HE.out.below HU.out.1 (Nat.le_refl _)).more HU.out.1.size)
  rw[hv] at hlq
  have HLQ:=hide hlq
  clear hlq
  clear hv
  obtain⟨c0,c1⟩:=zr2 ((K0.out.block _ (by omega)).trans HU.out.2.2.1)
  obtain⟨d0,d1,d2,d3,d4⟩:=zr5 ((K0.out.block _ (by omega)).trans HU.out.2.2.2.1)
  have hz0:w.heap.size<u.heap.size:=by have:=K0.out.size;omega
  have hz1:w.heap.size+1<u.heap.size:=by have:=K0.out.size;omega
  go_enter Tryz.func5,Tryz.ntmps5
  go_upto_region 1 with fail
  rw[HUe.out]
  go_wp2_with fail
  refine HLQ.out.mono ?_
  rintro e v1 ⟨rfl,hb⟩
  have K1:Hid (Below u.heap.size u v1):=hide hb
  have sv1:u.heap.size≤v1.heap.size:=hb.size
  clear hb
  clear c0 c1 d0 d1 d2 d3 d4 hz0 hz1
  go_wp2_with fail
  refine (works_any _).mono ?_
  rintro e zz ⟨rfl,hzz⟩
  have HZ:=hide (HU.out.1.trans ((K1.out.trans (hzz.mono K1.out.size)).mono (by omega)))
  clear hzz
  go_wp2
  go_ret
  exact⟨rfl,HZ.out⟩
 rcases hf:fewB nv nc ni with _ | _
 ·have HV:=hide hv
  have HF:=hide hf
  have hlq:=lightq_any u V A es L c HL.out (by omega) ((HE.out.below HU.out.1 (Nat.le_refl _)).more HU.out.1.size)
  rw[hv] at hlq
  have HLQ:=hide hlq
  clear hlq
  clear hv
  obtain⟨c0,c1⟩:=zr2 ((K0.out.block _ (by omega)).trans HU.out.2.2.1)
  obtain⟨d0,d1,d2,d3,d4⟩:=zr5 ((K0.out.block _ (by omega)).trans HU.out.2.2.2.1)
  have hz0:w.heap.size<u.heap.size:=by have:=K0.out.size;omega
  have hz1:w.heap.size+1<u.heap.size:=by have:=K0.out.size;omega
  go_enter Tryz.func5,Tryz.ntmps5
  go_upto_region 1 with fail
  rw[HUe.out]
  go_wp2_with fail
  refine HLQ.out.mono ?_
  rintro e v1 ⟨rfl,hb⟩
  have K1:Hid (Below u.heap.size u v1):=hide hb
  have sv1:u.heap.size≤v1.heap.size:=hb.size
  clear hb
  clear c0 c1 d0 d1 d2 d3 d4 hz0 hz1
  obtain⟨s0,s1,s2,s3,s4,s5⟩:=zr6 ((K1.out.block _ (by omega)).trans HU.out.2.2.2.2)
  have hz2:w.heap.size+1+1<v1.heap.size:=by have:=K1.out.size;omega
  have hfw:=few_any v1 p.st p.sm p.mo Av Ac Ai nv nc ni cv cc ci
  rw[hf] at hfw
  have HFW:=hide hfw
  clear hfw
  go_wp2_with fail
  refine HFW.out.mono ?_
  rintro e v2 ⟨rfl,hb⟩
  have K2:=hide (K1.out.trans (hb.mono K1.out.size))
  have sv2:v1.heap.size≤v2.heap.size:=hb.size
  clear hb
  clear s0 s1 s2 s3 s4 s5 hz2
  clear hf
  go_wp2_with fail
  refine (works_any _).mono ?_
  rintro e zz ⟨rfl,hzz⟩
  have HZ:=hide (HU.out.1.trans ((K2.out.trans (hzz.mono K2.out.size)).mono (by omega)))
  clear hzz
  go_wp2
  go_ret
  exact⟨rfl,HZ.out⟩
 have HV:=hide hv
 have HFh:=hide hf
 have hlq:=lightq_any u V A es L c HL.out (by omega) ((HE.out.below HU.out.1 (Nat.le_refl _)).more HU.out.1.size)
 rw[hv] at hlq
 have HLQ:=hide hlq
 clear hlq
 have hL8:L≤80:=by have:=lit12_le hv;have:=HL.out;omega
 obtain⟨hn1,hn2,hn3⟩:=fewB_le hf
 obtain⟨E,hEe⟩:∃q,(stepE (acheckF k j1 j2 j3 j4 V es) V p)=q:=⟨_,rfl⟩
 obtain⟨s,hse⟩:∃q,(nextV k j3 es V.toNat p)=q:=⟨_,rfl⟩
 obtain⟨Vn,hVn⟩:∃q,V.toNat=q:=⟨_,rfl⟩
 have HOK:Hid (E=0→OkS Vn s∧Vn≤512):=hide (fun h0=>by
  have hch:acheckF k j1 j2 j3 j4 V es=0∧mayV V p=true:=by
   rw[←hEe,stepE] at h0
   by_cases h1:acheckF k j1 j2 j3 j4 V es=0
   ·refine⟨h1,?_⟩
    rw[if_neg (by simpa using h1)] at h0
    cases hmv:mayV V p with
    | true=>rfl
    | false=>rw[if_pos (.inl hmv)] at h0;cases h0
   ·rw[if_pos h1] at h0;exact absurd h0 h1
  have hok:=acheck_ok hch.1
  rw[←hse,←hVn]
  exact⟨nextV_ok hok.1.2.2 (mayV_ok hch.2 HBI.out).2.2.2.2.2,by omega⟩)
 have HA:=hide (fun (x:World) (hx:Below u.heap.size u x)=>qstepO_any x V A es L c HL.out (by omega) ((HE.out.below (HU.out.1.trans (hx.mono (by omega))) (Nat.le_refl _)).more (HU.out.1.trans (hx.mono (by omega))).size) k j1 j2 j3 j4 (fun _=>hL8) p Av Ac Ai nv nc ni cv cc ci HVL.out (HIu.out.next hx) HBI.out (by omega) (by omega))
 have HD:=hide (fun (x:World) (hx:Below u.heap.size u x) (B1 B2 B3:Option Addr) (e1 e2 e3:Nat) (hin:VIn x p B1 B2 B3)=>qrstep_any x V A es L c HL.out (by omega) ((HE.out.below (HU.out.1.trans (hx.mono (by omega))) (Nat.le_refl _)).more (HU.out.1.trans (hx.mono (by omega))).size) k j1 j2 j3 j4 (fun _=>hL8) p B1 B2 B3 nv nc ni e1 e2 e3 HVL.out hin HBI.out (by omega) (by omega))
 rw[hse,hEe,hVn] at HA HD
 obtain⟨q,hq⟩:∃x,resV E s=x:=⟨_,rfl⟩
 clear hEe hse hVn hv
 obtain⟨c0,c1⟩:=zr2 ((K0.out.block _ (by omega)).trans HU.out.2.2.1)
 obtain⟨d0,d1,d2,d3,d4⟩:=zr5 ((K0.out.block _ (by omega)).trans HU.out.2.2.2.1)
 have hz0:w.heap.size<u.heap.size:=by have:=K0.out.size;omega
 have hz1:w.heap.size+1<u.heap.size:=by have:=K0.out.size;omega
 go_enter Tryz.func5,Tryz.ntmps5
 go_upto_region 1 with fail
 rw[HUe.out]
 go_wp2_with fail
 refine HLQ.out.mono ?_
 rintro e v1 ⟨rfl,hb⟩
 have K1:Hid (Below u.heap.size u v1):=hide hb
 have sv1:u.heap.size≤v1.heap.size:=hb.size
 clear hb
 clear c0 c1 d0 d1 d2 d3 d4 hz0 hz1
 obtain⟨s0,s1,s2,s3,s4,s5⟩:=zr6 ((K1.out.block _ (by omega)).trans HU.out.2.2.2.2)
 have hz2:w.heap.size+1+1<v1.heap.size:=by have:=K1.out.size;omega
 have hfw:=few_any v1 p.st p.sm p.mo Av Ac Ai nv nc ni cv cc ci
 rw[hf] at hfw
 have HFW:=hide hfw
 clear hfw
 go_wp2_with fail
 refine HFW.out.mono ?_
 rintro e v2 ⟨rfl,hb⟩
 have K2:=hide (K1.out.trans (hb.mono K1.out.size))
 have sv2:v1.heap.size≤v2.heap.size:=hb.size
 clear hb
 clear s0 s1 s2 s3 s4 s5 hz2
 clear hf
 obtain⟨s0,s1,s2,s3,s4,s5⟩:=zr6 ((K2.out.block _ (by omega)).trans HU.out.2.2.2.2)
 have hz2:w.heap.size+1+1<v2.heap.size:=by have:=K2.out.size;omega
 go_upto_region 4 with fail
 obtain⟨a0,ha⟩:∃x,v2.alloc (.cells #[.int .i64 p.st,.slice none 0 0,.slice none 0 0,.slice none 0 0,.int .i64 p.sm,.int .i64 p.mo] 33)=x:=⟨_,rfl⟩
 have hAl:Below v2.heap.size v2 a0:=by rw[←ha];exact (Below.refl _ _).alloc (Nat.le_refl _) _
 have hW0:a0.heap[v2.heap.size]?=some (.cells #[.int .i64 p.st,.slice none 0 0,.slice none 0 0,.slice none 0 0,.int .i64 p.sm,.int .i64 p.mo] 33):=by rw[←ha];exact heap_alloc_last _ _
 have sa0:v2.heap.size<a0.heap.size:=by rw[←ha];simp
 rw[ha]
 have KA0:=hide (K2.out.trans (hAl.mono K2.out.size))
 have suW:u.heap.size≤v2.heap.size:=K2.out.size
 obtain⟨W0,hW⟩:∃x,v2.heap.size=x:=⟨_,rfl⟩
 rw[hW] at hW0 sa0 suW ⊢
 have HWa0:=hide hW0
 clear ha hAl hW0 hW
 clear s0 s1 s2 s3 s4 s5 hz2
 have wf:a0.cell? ⟨W0,1,none⟩=some (.slice none 0 0):=cell_of_row _ _ 1 _ _ _ HWa0.out
 have s1:a0.cell? ⟨w.heap.size+1+1,1,none⟩=some (.slice Av nv cv):=cell_of_row _ _ 1 _ _ _ ((KA0.out.block _ (by omega)).trans HU.out.2.2.2.2)
 have hz2:w.heap.size+1+1<a0.heap.size:=by have:=KA0.out.size;omega
 have hW1:W0<a0.heap.size:=by omega
 have hRX:=(HIu.out.next KA0.out).vals
 go_wp2_with (at_builtin;refine wpList_app rfl (.tmp 30) (.tmp 32) 29 rfl a0.heap.size 2 i0 (.int .i64 0) 1 8 Tryz.underlying29 i0i i0z i0s i0b rfl (by decide) (.slice none 0 0) 0 [] rfl (World.ownsRow_nil _ _ _ _) a0.heap.size Av nv cv (i64s p.vals) rfl (by simp[i64s,HVL.out.1]) hRX (i64s_oneQ _) (by unfold maxLen;omega) (by omega) (by omega) ?_)
 intro Ao1 co1 y1 own2 hg2 hat2
 have hO1:y1.ownsRow a0.heap.size 2 1 (.slice Ao1 nv co1) nv (i64s p.vals):=by simpa using own2
 have hBy:Below a0.heap.size a0 y1:=(Below.refl a0.heap.size a0).grown hg2 (Nat.le_refl _) (fun x e=>by cases e)
 have szy:a0.heap.size≤y1.heap.size:=hBy.size
 have hWy:=(hBy.block W0 hW1).trans HWa0.out
 clear wf s1 hz2 hRX own2 hg2 hat2
 have wf:y1.cell? ⟨W0,1,none⟩=some (.slice none 0 0):=cell_of_row _ _ 1 _ _ _ hWy
 have ff:=zf hWy 1
 have hW2:W0<y1.heap.size:=by omega
 have HBy:=hide hBy
 have HWy:=hide hWy
 have HxO1:=hide hO1
 clear hBy hWy hO1
 go_upto_region 5 with fail
 clear wf ff hW1 hW2
 obtain⟨z1,hzn⟩:∃x,y1.setCell ⟨W0,1,none⟩ (.slice Ao1 nv co1)=x:=⟨_,rfl⟩
 have HWz1:=hide (set_at1 (x:=.slice Ao1 nv co1) HWy.out)
 have HO1:=hide (Go.Proofs.YtpgbjabifhjogaaGreat.own_set (b:=W0) (j:=1) (u:=.slice Ao1 nv co1) HxO1.out (by omega))
 have Kz1:=hide ((KA0.out.trans (HBy.out.mono KA0.out.size)).setCell (p:=⟨W0,1,none⟩) (by show u.heap.size≤W0;omega) (.slice Ao1 nv co1))
 have hsz:=World.size_setCell y1 ⟨W0,1,none⟩ (.slice Ao1 nv co1)
 rw[hzn] at HWz1 HO1 Kz1 hsz  ⊢
 have sz1:a0.heap.size≤z1.heap.size:=by omega
 clear hzn hsz szy HBy HWy HxO1
 have wf:z1.cell? ⟨W0,2,none⟩=some (.slice none 0 0):=cell_of_row _ _ 2 _ _ _ HWz1.out
 have s2:z1.cell? ⟨w.heap.size+1+1,2,none⟩=some (.slice Ac nc cc):=cell_of_row _ _ 2 _ _ _ ((Kz1.out.block _ (by omega)).trans HU.out.2.2.2.2)
 have hz2:w.heap.size+1+1<z1.heap.size:=by have:=Kz1.out.size;omega
 have hW1:W0<z1.heap.size:=by omega
 have hRX:=(HIu.out.next Kz1.out).chg
 go_wp2_with (at_builtin;refine wpList_app rfl (.tmp 36) (.tmp 38) 30 rfl a0.heap.size 4 b0 (.bool false) 1 1 Tryz.underlying30 b0i b0z b0s b0b rfl (by decide) (.slice none 0 0) 0 [] rfl (World.ownsRow_nil _ _ _ _) z1.heap.size Ac nc cc (bools p.chg) rfl (by simp[bools,HVL.out.2.1]) hRX (bools_oneQ _) (by unfold maxLen;omega) (by omega) (by omega) ?_)
 intro Ao2 co2 y2 own2 hg2 hat2
 have hO2:y2.ownsRow a0.heap.size 4 1 (.slice Ao2 nc co2) nc (bools p.chg):=by simpa using own2
 have hBy:Below z1.heap.size z1 y2:=(Below.refl z1.heap.size z1).grown hg2 (Nat.le_refl _) (fun x e=>by cases e)
 have szy:z1.heap.size≤y2.heap.size:=hBy.size
 have hWy:=(hBy.block W0 hW1).trans HWz1.out
 clear wf s2 hz2 hRX own2 hg2 hat2
 have wf:y2.cell? ⟨W0,2,none⟩=some (.slice none 0 0):=cell_of_row _ _ 2 _ _ _ hWy
 have ff:=zf hWy 2
 have hW2:W0<y2.heap.size:=by omega
 have HBy:=hide hBy
 have HWy:=hide hWy
 have HxO2:=hide hO2
 clear hBy hWy hO2
 go_upto_region 6 with fail
 clear wf ff hW1 hW2
 obtain⟨z2,hzn⟩:∃x,y2.setCell ⟨W0,2,none⟩ (.slice Ao2 nc co2)=x:=⟨_,rfl⟩
 have HWz2:=hide (set_at2 (x:=.slice Ao2 nc co2) HWy.out)
 have HO2:=hide (Go.Proofs.YtpgbjabifhjogaaGreat.own_set (b:=W0) (j:=2) (u:=.slice Ao2 nc co2) HxO2.out (by omega))
 have HO1n:=hide (Go.Proofs.YtpgbjabifhjogaaGreat.own_set (b:=W0) (j:=2) (u:=.slice Ao2 nc co2) (own_below HO1.out HBy.out (fun g hg=>(HO1.out.lt g hg).2)) (by omega))
 have Kz2:=hide ((Kz1.out.trans (HBy.out.mono Kz1.out.size)).setCell (p:=⟨W0,2,none⟩) (by show u.heap.size≤W0;omega) (.slice Ao2 nc co2))
 have hsz:=World.size_setCell y2 ⟨W0,2,none⟩ (.slice Ao2 nc co2)
 rw[hzn] at HWz2 HO2 Kz2 hsz HO1n ⊢
 have sz2:z1.heap.size≤z2.heap.size:=by omega
 clear hzn hsz szy HBy HWy HxO2
 clear HO1
 have HO1:=HO1n
 clear HO1n
 have wf:z2.cell? ⟨W0,3,none⟩=some (.slice none 0 0):=cell_of_row _ _ 3 _ _ _ HWz2.out
 have s3:z2.cell? ⟨w.heap.size+1+1,3,none⟩=some (.slice Ai ni ci):=cell_of_row _ _ 3 _ _ _ ((Kz2.out.block _ (by omega)).trans HU.out.2.2.2.2)
 have hz2:w.heap.size+1+1<z2.heap.size:=by have:=Kz2.out.size;omega
 have hW1:W0<z2.heap.size:=by omega
 have hRX:=(HIu.out.next Kz2.out).inb
 go_wp2_with (at_builtin;refine wpList_app rfl (.tmp 42) (.tmp 44) 31 rfl a0.heap.size 76 m0 (.agg #[.bool false,.int .i64 0]) 2 16 Tryz.underlying31 m0i m0z m0s m0b rfl (by decide) (.slice none 0 0) 0 [] rfl (World.ownsRow_nil _ _ _ _) z2.heap.size Ai ni ci (mlFlat p.inb) rfl (by rw[mlFlat_len,HVL.out.2.2]) hRX (mlFlat_one _) (by unfold maxLen;omega) (by omega) (by omega) ?_)
 intro Ao3 co3 y3 own2 hg2 hat2
 have hO3:y3.ownsRow a0.heap.size 76 2 (.slice Ao3 ni co3) ni (mlFlat p.inb):=by simpa using own2
 have hBy:Below z2.heap.size z2 y3:=(Below.refl z2.heap.size z2).grown hg2 (Nat.le_refl _) (fun x e=>by cases e)
 have szy:z2.heap.size≤y3.heap.size:=hBy.size
 have hWy:=(hBy.block W0 hW1).trans HWz2.out
 clear wf s3 hz2 hRX own2 hg2 hat2
 have wf:y3.cell? ⟨W0,3,none⟩=some (.slice none 0 0):=cell_of_row _ _ 3 _ _ _ hWy
 have ff:=zf hWy 3
 have hW2:W0<y3.heap.size:=by omega
 have HBy:=hide hBy
 have HWy:=hide hWy
 have HxO3:=hide hO3
 clear hBy hWy hO3
 go_upto_region 7 with fail
 clear wf ff hW1 hW2
 obtain⟨z3,hzn⟩:∃x,y3.setCell ⟨W0,3,none⟩ (.slice Ao3 ni co3)=x:=⟨_,rfl⟩
 have HWz3:=hide (set_at3 (x:=.slice Ao3 ni co3) HWy.out)
 have HO3:=hide (Go.Proofs.YtpgbjabifhjogaaGreat.own_set (b:=W0) (j:=3) (u:=.slice Ao3 ni co3) HxO3.out (by omega))
 have HO1n:=hide (Go.Proofs.YtpgbjabifhjogaaGreat.own_set (b:=W0) (j:=3) (u:=.slice Ao3 ni co3) (own_below HO1.out HBy.out (fun g hg=>(HO1.out.lt g hg).2)) (by omega))
 have HO2n:=hide (Go.Proofs.YtpgbjabifhjogaaGreat.own_set (b:=W0) (j:=3) (u:=.slice Ao3 ni co3) (own_below HO2.out HBy.out (fun g hg=>(HO2.out.lt g hg).2)) (by omega))
 have Kz3:=hide ((Kz2.out.trans (HBy.out.mono Kz2.out.size)).setCell (p:=⟨W0,3,none⟩) (by show u.heap.size≤W0;omega) (.slice Ao3 ni co3))
 have hsz:=World.size_setCell y3 ⟨W0,3,none⟩ (.slice Ao3 ni co3)
 rw[hzn] at HWz3 HO3 Kz3 hsz HO1n HO2n ⊢
 have sz3:z2.heap.size≤z3.heap.size:=by omega
 clear hzn hsz szy HBy HWy HxO3
 clear HO1
 have HO1:=HO1n
 clear HO1n
 clear HO2
 have HO2:=HO2n
 clear HO2n
 have HIW:Hid (VIn z3 p Ao1 Ao2 Ao3):=hide ⟨Rd.of_own HO1.out,Rd.of_own HO2.out,Rd.of_own HO3.out⟩
 clear HO1 HO2 HO3 HWa0 HWz1 HWz2
 have sWz:W0<z3.heap.size:=by omega
 obtain⟨s0,s1,s2,s3,s4,s5⟩:=zr6 ((Kz3.out.block _ (by omega)).trans HU.out.2.2.2.2)
 have hz2:w.heap.size+1+1<z3.heap.size:=by have:=Kz3.out.size;omega
 obtain⟨c0,c1⟩:=zr2 ((Kz3.out.block _ (by omega)).trans HU.out.2.2.1)
 obtain⟨d0,d1,d2,d3,d4⟩:=zr5 ((Kz3.out.block _ (by omega)).trans HU.out.2.2.2.1)
 have hz0:w.heap.size<z3.heap.size:=by have:=Kz3.out.size;omega
 have hz1:w.heap.size+1<z3.heap.size:=by have:=Kz3.out.size;omega
 go_wp2_with fail
 refine (HA.out z3 Kz3.out).mono ?_
 intro e y hpost
 obtain⟨Av1,Ac1,Ai1,nv1,nc1,ni1,cv1,cc1,ci1,he,hl1,hi1,hb,⟨m11,m21,m31⟩,hown⟩:=hpost.val HOK.out
 rw[hq] at he hl1 hi1 hown
 subst he
 have HL1:=hide hl1
 have HB1:=hide hb
 have KY:=hide (Kz3.out.trans (hb.mono Kz3.out.size))
 have syy:z3.heap.size≤y.heap.size:=hb.size
 clear c0 c1 d0 d1 d2 d3 d4 hz0 hz1
 clear hpost hb hl1
 go_upto_region 8 with fail
 obtain⟨a1,ha⟩:∃x,y.alloc (.cells #[.int .i64 q.st,.slice Av1 nv1 cv1,.slice Ac1 nc1 cc1,.slice Ai1 ni1 ci1,.int .i64 q.sm,.int .i64 q.mo] 33)=x:=⟨_,rfl⟩
 have hAl:Below y.heap.size y a1:=by rw[←ha];exact (Below.refl _ _).alloc (Nat.le_refl _) _
 have hSx:a1.heap[y.heap.size]?=some (.cells #[.int .i64 q.st,.slice Av1 nv1 cv1,.slice Ac1 nc1 cc1,.slice Ai1 ni1 ci1,.int .i64 q.sm,.int .i64 q.mo] 33):=by rw[←ha];exact heap_alloc_last _ _
 have sa1:y.heap.size<a1.heap.size:=by rw[←ha];simp
 rw[ha]
 have HI1:=hide (hi1.next hAl)
 have HOWN:=hide (own_below hown hAl (fun g hg=>(hown.lt g hg).2))
 have HOL:Hid (∀g,(Value.slice Av1 nv1 cv1).ownBlock=some g→z3.heap.size≤g∧g<y.heap.size):=hide (fun g hg=>hown.lt g hg)
 clear hown
 have KA:=hide (KY.out.trans (hAl.mono KY.out.size))
 have HBA1:=hide (HB1.out.trans (hAl.mono syy))
 obtain⟨T1,hT⟩:∃x,y.heap.size=x:=⟨_,rfl⟩
 rw[hT] at hSx sa1 syy HOL ⊢
 have HS1:=hide hSx
 have sT1:=syy
 clear ha hAl hi1 KY syy hT hSx
 clear s0 s1 s2 s3 s4 s5 hz2
 obtain⟨wr0,wr1,wr2,wr3,wr4,wr5⟩:=zr6 ((HBA1.out.block W0 sWz).trans HWz3.out)
 have hWa:W0<a1.heap.size:=by omega
 obtain⟨c0,c1⟩:=zr2 ((KA.out.block _ (by omega)).trans HU.out.2.2.1)
 obtain⟨d0,d1,d2,d3,d4⟩:=zr5 ((KA.out.block _ (by omega)).trans HU.out.2.2.2.1)
 have hz0:w.heap.size<a1.heap.size:=by have:=KA.out.size;omega
 have hz1:w.heap.size+1<a1.heap.size:=by have:=KA.out.size;omega
 go_wp2_with fail
 refine (HD.out a1 KA.out Ao1 Ao2 Ao3 co1 co2 co3 (HIW.out.next HBA1.out)).mono ?_
 intro e y hpost
 obtain⟨Av2,Ac2,Ai2,nv2,nc2,ni2,cv2,cc2,ci2,he,hl2,hi2,hb,m12,m22,m32⟩:=hpost.val HOK.out
 rw[hq] at he hl2 hi2
 subst he
 have HL2:=hide hl2
 have HB2:=hide hb
 have KY:=hide (KA.out.trans (hb.mono KA.out.size))
 have syy:a1.heap.size≤y.heap.size:=hb.size
 clear c0 c1 d0 d1 d2 d3 d4 hz0 hz1
 clear hpost hb hl2
 go_upto_region 9 with fail
 obtain⟨a2,ha⟩:∃x,y.alloc (.cells #[.int .i64 q.st,.slice Av2 nv2 cv2,.slice Ac2 nc2 cc2,.slice Ai2 ni2 ci2,.int .i64 q.sm,.int .i64 q.mo] 33)=x:=⟨_,rfl⟩
 have hAl:Below y.heap.size y a2:=by rw[←ha];exact (Below.refl _ _).alloc (Nat.le_refl _) _
 have hSx:a2.heap[y.heap.size]?=some (.cells #[.int .i64 q.st,.slice Av2 nv2 cv2,.slice Ac2 nc2 cc2,.slice Ai2 ni2 ci2,.int .i64 q.sm,.int .i64 q.mo] 33):=by rw[←ha];exact heap_alloc_last _ _
 have sa2:y.heap.size<a2.heap.size:=by rw[←ha];simp
 rw[ha]
 have HI2:=hide (hi2.next hAl)
 have KB:=hide (KY.out.trans (hAl.mono KY.out.size))
 have HBA2:=hide (HB2.out.trans (hAl.mono syy))
 obtain⟨T2,hT⟩:∃x,y.heap.size=x:=⟨_,rfl⟩
 rw[hT] at hSx sa2 syy ⊢
 have HS2:=hide hSx
 have sT2:=syy
 clear ha hAl hi2 KY syy hT hSx
 clear wr0 wr1 wr2 wr3 wr4 wr5 hWa
 have hT2:T1<a2.heap.size:=by have:=HBA2.out.size;omega
 obtain⟨x0,x1,x2,x3,x4,x5⟩:=zr6 ((HBA2.out.block _ sa1).trans HS1.out)
 obtain⟨y0,y1,y2,y3,y4,y5⟩:=zr6 HS2.out
 have hc1:=qrsame_any a2 q Av1 Ac1 Ai1 nv1 nc1 ni1 cv1 cc1 ci1 HL1.out (HI1.out.next HBA2.out) q Av2 Ac2 Ai2 nv2 nc2 ni2 cv2 cc2 ci2 HL2.out HI2.out (by omega) (by omega) (by omega)
 rw[sameV_rfl] at hc1
 have HC1:=hide hc1
 clear hc1
 go_wp2_with fail
 refine HC1.out.mono ?_
 rintro e n1 ⟨rfl,hn⟩
 have sn1:a2.heap.size≤n1.heap.size:=hn.size
 have HZN:=hide ((HBA1.out.trans (HBA2.out.mono (by have:=HBA1.out.size;omega))).trans (hn.mono (by have:=HBA1.out.size;have:=HBA2.out.size;omega)))
 have HAN:=hide (HBA2.out.trans (hn.mono HBA2.out.size))
 clear hn x0 y0 x1 y1 x2 y2 x3 y3 x4 y4 x5 y5
 have HOn:=hide (own_below HOWN.out HAN.out (fun g hg=>(HOWN.out.lt g hg).2))
 have HTn:=hide ((HAN.out.block T1 sa1).trans HS1.out)
 go_wp2
 go_loopw [12] (fun vi wr=>∃(i:Nat) (xs:List Value),i≤nv1∧vi = .int .i64 (i:Int)∧Hid (wr.ownsRow z3.heap.size 2 1 (.slice Av1 nv1 cv1) nv1 xs)∧Hid (Below z3.heap.size z3 wr)∧Hid (wr.heap[T1]?=some (.cells #[.int .i64 q.st,.slice Av1 nv1 cv1,.slice Ac1 nc1 cc1,.slice Ai1 ni1 ci1,.int .i64 q.sm,.int .i64 q.mo] 33))) (fun vi _=>nv1-(intOf vi).toNat)
 case atStart=>exact⟨0,_,by omega,rfl,HOn,HZN,HTn⟩
 case round=>
  obtain⟨i,xs,hi,rfl,HOr,HBr,HTr⟩:=hrel
  have srw:z3.heap.size≤wr.heap.size:=HBr.out.size
  have x1:wr.cell? ⟨T1,1,none⟩=some (.slice Av1 nv1 cv1):=cell_of_row _ _ 1 _ _ _ HTr.out
  have hTw:T1<wr.heap.size:=(Array.getElem?_eq_some_iff.1 HTr.out).1
  by_cases hlt:i<nv1
  ·have hI0:(0:Int)≤(i:Int):=by omega
   have hI1:(i:Int)<(nv1:Int):=by omega
   obtain⟨gB,hgA,hg1,hg2⟩:=own_adrQ HOr.out (by omega)
   subst hgA
   have hne:gB≠T1:=by have:=(HOL.out gB rfl).2;omega
   have hxl:xs.length=nv1:=by have:=HOr.out.1;omega
   obtain⟨v0,hv0⟩:∃y,xs[i]?=some y:=⟨_,List.getElem?_eq_getElem (by omega)⟩
   have e0:wr.cell? ⟨gB,i,none⟩=some v0:=(HOr.out.cellAt i (by omega)).trans hv0
   have f0:wr.frozen? ⟨gB,i,none⟩=false:=HOr.out.frozenAt i
   clear hv0
   go_wp2
   obtain⟨y5,hy5⟩:∃x,wr.setCell ⟨gB,i,none⟩ (.int .i64 (-9))=x:=⟨_,rfl⟩
   have HO5:=hide (HOr.out.stored i (.int .i64 (-9))).1
   have HB5:=hide (HBr.out.setCell (p:=⟨gB,i,none⟩) hg1 (.int .i64 (-9)))
   have HT5:=hide ((Below.heap_setCell wr ⟨gB,i,none⟩ (.int .i64 (-9)) T1 (Ne.symm hne)).trans HTr.out)
   rw[hy5] at HO5 HB5 HT5 ⊢
   clear hy5 e0 f0 x1
   go_roundw
   case rel=>exact⟨i+1,_,by omega,by go_num,HO5,HB5,HT5⟩
   case measure=>simp[intOf];omega
  obtain rfl:i=nv1:=by omega
  have KW:=hide (Kz3.out.trans (HBr.out.mono Kz3.out.size))
  obtain⟨s0,s1,s2,s3,s4,s5⟩:=zr6 ((KW.out.block _ (by omega)).trans HU.out.2.2.2.2)
  have hz2:w.heap.size+1+1<wr.heap.size:=by have:=KW.out.size;omega
  obtain⟨wr0,wr1,wr2,wr3,wr4,wr5⟩:=zr6 ((HBr.out.block W0 sWz).trans HWz3.out)
  have hWa:W0<wr.heap.size:=by omega
  have hc2:=qrsame_any wr p Av Ac Ai nv nc ni cv cc ci HVL.out (HIu.out.next KW.out) p Ao1 Ao2 Ao3 nv nc ni co1 co2 co3 HVL.out (HIW.out.next HBr.out) (by omega) (by omega) (by omega)
  rw[sameV_rfl] at hc2
  have HC2:=hide hc2
  clear hc2
  go_wp2_with fail
  refine HC2.out.mono ?_
  rintro e n2 ⟨rfl,hn⟩
  have KM:=hide (KW.out.trans (hn.mono KW.out.size))
  clear hn x1 wr0 wr1 wr2 wr3 wr4 wr5 hWa
  clear s0 s1 s2 s3 s4 s5 hz2
  go_wp2_with fail
  refine (works_any _).mono ?_
  rintro e zz ⟨rfl,hzz⟩
  have HZ:=hide (HU.out.1.trans ((KM.out.trans (hzz.mono KM.out.size)).mono (by omega)))
  clear hzz
  go_wp2
  go_ret
  exact⟨rfl,HZ.out⟩
end Go.Proofs.YtpgbjabifhjogaaGreat
namespace Go.Proofs.YtpgbjabifhjogaaGreat
open Go.RowKit
theorem nextVals_get (k j3:Int) (V:Nat) (s:SV) {n v:Nat} (h:v<n):(nextVals k j3 V s n).getD v 0=(compV k j3 V s v).1:=by
 rw[List.getD_eq_getElem?_getD]
 simp[nextVals,h]
theorem nextChs_get (k j3:Int) (V:Nat) (s:SV) {n v:Nat} (h:v<n):(nextChs k j3 V s n).getD v false=(compV k j3 V s v).2:=by
 rw[List.getD_eq_getElem?_getD]
 simp[nextChs,h]
theorem comp_falls {k j3:Int} {V:Nat} {s:SV} {v:Nat} (hk:k=2∨k=3):(compV k j3 V s v).1≤s.vals.getD v 0:=by
 unfold compV compK
 rcases hk with rfl | rfl
 ·rw[if_neg (by decide),if_pos rfl]
  unfold ltakeOf
  split
  ·rename_i h
   exact Int.le_of_lt h.2
  exact Int.le_refl _
 rw[if_neg (by decide),if_neg (by decide),if_pos rfl]
 unfold takeOf
 split
 ·rename_i h
  exact Int.le_of_lt h.2
 exact Int.le_refl _
theorem next_falls {k j3:Int} {es:List Ed} {V:Nat} {s:SV} {v:Nat} (hk:k=2∨k=3) (hv:v<V):(nextV k j3 es V s).vals.getD v 0≤s.vals.getD v 0:=by
 show (nextVals k j3 V s V).getD v 0≤_
 rw[nextVals_get _ _ _ _ hv]
 exact comp_falls hk
theorem dadd_zero {a b:Int} (ha:0≤a) (hb:0≤b) (h:dadd a b=0):a=0∧b=0:=by
 have h1:=dist_bounds a
 have h2:=dist_bounds b
 have h3:dist a=0∧dist b=0:=by
  unfold dadd at h
  split at h <;> omega
 unfold dist at h3
 obtain⟨h4,h5⟩:=h3
 constructor
 ·split at h4 <;> (try split at h4) <;> omega
 split at h5 <;> (try split at h5) <;> omega
theorem tot_none {k:Int} {es:List Ed} {was vals:List Int} {chs:List Bool} (hk:k=2∨k=3):∀{n:Nat},(totV k es was vals chs n).2=0→∀v,v<n→chs.getD v false=false
 | 0,_,v,hv=>absurd hv (Nat.not_lt_zero v)
 | n+1,h,v,hv=>by
  have hj:∀s m q r:Int,joinF k s m q r=(dadd s q,dadd m r):=fun s m q r=>by
   unfold joinF
   rcases hk with rfl | rfl <;> simp
  rw[totV,hj] at h
  have h0:0≤(totV k es was vals chs n).2:=by
   cases n with
   | zero=>exact Int.le_refl _
   | succ n=>rw[totV,hj];exact (dadd_rg _ _).1
  have hp:∀c:Bool,(partT k (was.getD n 0) (vals.getD n 0) c (fromF es n).length).2=if c=true then 1 else 0:=fun c=>by
   unfold partT
   rcases hk with rfl | rfl <;> cases c <;> simp
  have hd:=dadd_zero h0 (by rw[hp];split <;> omega) h
  by_cases hv2:v<n
  ·exact tot_none hk hd.1 v hv2
  have e:v=n:=by omega
  subst e
  have h2:=hd.2
  rw[hp] at h2
  cases hc:chs.getD v false with
  | false=>rfl
  | true=>rw[hc] at h2;simp at h2
theorem tot_zero {k:Int} {es:List Ed} {was vals:List Int} {chs:List Bool} (hk:k=2∨k=3):∀{n:Nat},(∀v,v<n→chs.getD v false=false)→totV k es was vals chs n=(0,0)
 | 0,_=>rfl
 | n+1,h=>by
  rw[totV,tot_zero hk (fun v hv=>h v (by omega)),h n (by omega)]
  rcases hk with rfl | rfl <;> simp[partT,joinF,dadd,dist]
theorem row_none {k:Int} {es:List Ed} {vals:List Int} {chs:List Bool} {v:Nat} (hk:k=2∨k=3) (h:chs.getD v false=false):rowV k es vals chs v=[]:=by
 unfold rowV sndD sndL
 rw[h]
 rcases hk with rfl | rfl <;> simp[lbMs,wyMs,docM]
theorem rows_none {k:Int} {es:List Ed} {vals:List Int} {chs:List Bool} (hk:k=2∨k=3):∀{n:Nat},(∀v,v<n→chs.getD v false=false)→(rowsV k es vals chs n).flatten=[]
 | 0,_=>rfl
 | n+1,h=>by
  rw[rowsV_succ,List.flatten_append,rows_none hk (fun v hv=>h v (by omega)),row_none hk (h n (by omega))]
  rfl
theorem told_none {k:Int} {es:List Ed} {vals:List Int} {chs:List Bool} {n v:Nat} (hk:k=2∨k=3) (h:∀v,v<n→chs.getD v false=false) (hv:v<n):(toldM k es vals chs n).getD v (false,0)=(false,0):=by
 unfold toldM mails
 rw[rows_none hk h,List.getD_eq_getElem?_getD]
 simp[ownL,hv,boxF,mlOf]
theorem done_stays {k j3:Int} {es:List Ed} {V:Nat} {was vals:List Int} {chs:List Bool} {st:Int} (hk:k=2∨k=3) (hl:vals.length=V) (h:(tellV k es was vals chs V st).mo=0) :
  (nextV k j3 es V (tellV k es was vals chs V st)).vals=vals∧(nextV k j3 es V (tellV k es was vals chs V st)).mo=0:=by
 have hc:=tot_none hk h
 have hcv:∀v,v<V→compV k j3 V (tellV k es was vals chs V st) v=(vals.getD v 0,false):=fun v hv=>by
  unfold compV
  rw[show (tellV k es was vals chs V st).inb.getD v (false,0)=(false,0) from told_none hk hc hv]
  rcases hk with rfl | rfl <;> simp[compK,ltakeOf,takeOf,tellV]
 have hn:nextVals k j3 V (tellV k es was vals chs V st) V=vals:=by
  refine List.ext_getElem? fun v=>?_
  by_cases hv:v<V
  ·simp only[nextVals,List.getElem?_map,List.getElem?_range hv,Option.map_some]
   rw[hcv v hv,List.getD_eq_getElem?_getD,List.getElem?_eq_getElem (by omega)]
   rfl
  rw[List.getElem?_eq_none (by simp[nextVals];omega),List.getElem?_eq_none (by omega)]
 refine⟨hn,?_⟩
 show (totV k es _ _ (nextChs k j3 V (tellV k es was vals chs V st) V) V).2=0
 rw[tot_zero hk (fun v hv=>by rw[nextChs_get _ _ _ _ hv,hcv v hv])]
def IN (x:Int):Prop:=0≤x∧x≤4611686018427387904
theorem IN.wi {x:Int} (h:IN x):wiB x=true:=by
 unfold wiB
 simp[h.1,h.2]
theorem dadd_in (a b:Int):IN (dadd a b):=dadd_rg a b
theorem comb_in {k a b:Int} (ha:IN a) (hb:IN b):IN (combF k a b):=by
 unfold combF
 split
 ·exact dadd_in a b
 unfold IN at *
 split <;> omega
def inM (l:List Ms):Prop:=∀m∈l,IN m.2
theorem addM_in {k:Int} {m:Ms} (hm:IN m.2):∀{l:List Ms},inM l→inM (addM k l m)
 | [],_=>fun x hx=>by rw[List.mem_singleton.1 hx];exact hm
 | y :: l,h=>by
  have hy:=h y (List.mem_cons_self ..)
  have hl:inM l:=fun x hx=>h x (List.mem_cons_of_mem _ hx)
  have ih:=addM_in (k:=k) hm hl
  unfold addM
  split
  ·intro x hx
   rcases List.mem_cons.1 hx with rfl | hx
   ·exact hy
   exact ih x hx
  split
  ·intro x hx
   rcases List.mem_cons.1 hx with rfl | hx
   ·exact comb_in hy hm
   exact hl x hx
  intro x hx
  rcases List.mem_cons.1 hx with rfl | hx
  ·exact hm
  exact h x hx
theorem docM_in {k:Int} {l:List Ms} (h:inM l):inM (docM k l):=by
 have g:∀(l acc:List Ms),inM l→inM acc→inM (l.foldl (addM k) acc):=by
  intro l
  induction l with
  | nil=>intro acc _ ha;exact ha
  | cons x l ih=>intro acc hl ha;exact ih _ (fun y hy=>hl y (List.mem_cons_of_mem _ hy)) (addM_in (hl x (List.mem_cons_self ..)) ha)
 exact g l [] h (fun x hx=>by cases hx)
theorem evenF_le {a n:Int} (ha:0≤a):0≤evenF a n∧evenF a n≤a∧(1≤n→evenF a n=a / n):=by
 unfold evenF shareF
 by_cases h:a<0∨n<1
 ·rw[if_pos h]
  simp only
  refine⟨by decide,ha,fun h1=>by omega⟩
 rw[if_neg h]
 simp only[if_true]
 rw[Int.tdiv_eq_ediv_of_nonneg ha]
 exact⟨Int.ediv_nonneg ha (by omega),Int.ediv_le_self _ ha,fun _=>rfl⟩
theorem sndD_in {k:Int} {ch:Bool} {v y:Int} {outs backs:List Ed} (hy:IN y):inM (sndD k ch v y outs backs):=by
 refine docM_in ?_
 unfold sndL
 split
 ·intro m hm
  obtain⟨e,he,rfl⟩:=List.mem_map.1 hm
  have:=evenF_le (n:=(outs.length:Int)) hy.1
  exact⟨this.1,Int.le_trans this.2.1 hy.2⟩
 split
 ·intro m hm
  unfold lbMs at hm
  split at hm
  ·obtain⟨u,hu,rfl⟩:=List.mem_map.1 hm
   exact hy
  cases hm
 split
 ·intro m hm
  unfold wyMs at hm
  split at hm
  ·obtain⟨e,he,rfl⟩:=List.mem_map.1 hm
   exact dadd_in _ _
  cases hm
 intro m hm;cases hm
theorem IN_zero:IN 0:=by unfold IN;omega
theorem getD_in {l:List Int} (h:∀x∈l,IN x) (v:Nat):IN (l.getD v 0):=by
 by_cases hv:v<l.length
 ·rw[List.getD_eq_getElem?_getD,List.getElem?_eq_getElem hv];exact h _ (List.getElem_mem hv)
 rw[List.getD_eq_getElem?_getD,List.getElem?_eq_none (by omega)];exact IN_zero
theorem rowsV_in {k:Int} {es:List Ed} {vals:List Int} {chs:List Bool} {n:Nat} (hv:∀x∈vals,IN x):inM (rowsV k es vals chs n).flatten:=fun m hm=>by
 obtain⟨r,hr,hmr⟩:=List.mem_flatten.1 hm
 obtain⟨v,_,rfl⟩:=List.mem_map.1 hr
 exact sndD_in (getD_in hv v) m hmr
theorem boxF_in {k:Int}:∀{l:List Ms},inM l→∀v x,boxF k l v=some x→IN x:=by
 suffices h:∀(l:List Ms) (f:Int→Option Int),inM l→(∀v x,f v=some x→IN x)→∀v x,l.foldl (addB k) f v=some x→IN x from fun {l} hl=>h l _ hl (fun v x hv=>by cases hv)
 intro l
 induction l with
 | nil=>intro f _ hf v x hv;exact hf v x hv
 | cons m l ih=>
  intro f hl hf
  refine ih _ (fun y hy=>hl y (List.mem_cons_of_mem _ hy)) (fun v x hv=>?_)
  have hm:=hl m (List.mem_cons_self ..)
  unfold addB bxPut at hv
  split at hv
  ·injection hv with hv
   subst hv
   cases hq:f m.1 with
   | some y=>exact comb_in (hf _ _ hq) hm
   | none=>exact hm
  exact hf v x hv
theorem mails_in {k:Int} {l:List Ms} {own:List Int} (h:inM l):∀m∈mails k l own,IN m.2:=fun m hm=>by
 obtain⟨v,_,rfl⟩:=List.mem_map.1 hm
 cases hq:boxF k l v with
 | none=>exact IN_zero
 | some x=>exact boxF_in h v x hq
theorem totV_in {k:Int} {es:List Ed} {was vals:List Int} {chs:List Bool} (hv:∀x∈vals,IN x):∀n,IN (totV k es was vals chs n).1∧IN (totV k es was vals chs n).2
 | 0=>⟨IN_zero,IN_zero⟩
 | n+1=>by
  have ih:=totV_in (k:=k) (es:=es) (was:=was) (chs:=chs) hv n
  rw[totV]
  generalize totV k es was vals chs n=T at ih
  have hp:IN (partT k (was.getD n 0) (vals.getD n 0) (chs.getD n false) (fromF es n).length).2:=by
   have h1:=dist_bounds (was.getD n 0)
   have h2:=dist_bounds (vals.getD n 0)
   unfold partT apartF IN
   split
   ·dsimp only;split <;> omega
   split <;> (dsimp only;omega)
  unfold joinF
  split
  ·exact⟨dadd_in _ _,by unfold IN at *;dsimp only;omega⟩
  split
  ·exact⟨dadd_in _ _,dadd_in _ _⟩
  exact⟨IN_zero,IN_zero⟩
structure InS (V:Nat) (s:SV):Prop where
 ok:OkS V s
 vals:∀x∈s.vals,IN x
 inb:∀m∈s.inb,IN m.2
 sm:IN s.sm
 mo:IN s.mo
theorem InS.may {V:Nat} {s:SV} (h:InS V s) (h0:0≤s.st) (h1:s.st≤2000):mayV (V:Int) s=true:=by
 unfold mayV
 have a1:=h.ok.lv
 have a2:=h.ok.lc
 have a3:=h.ok.li
 have a4:s.vals.all wiB=true:=List.all_eq_true.2 fun x hx=>(h.vals x hx).wi
 have a5:s.inb.all okM=true:=List.all_eq_true.2 fun m hm=>by simp[okM,(h.inb m hm).wi]
 simp[h0,h1,a1,a2,a3,a4,a5,h.sm.wi,h.mo.wi]
theorem tellV_in {k:Int} {es:List Ed} {was vals:List Int} {chs:List Bool} {V:Nat} {st:Int} (he:edsB es) (h1:vals.length=V) (h2:chs.length=V) (hv:∀x∈vals,IN x):InS V (tellV k es was vals chs V st):=
 ⟨tellV_ok he h1 h2 (fun x hx=>by have:=hv x hx;unfold IN at this;unfold i64V;omega),hv,mails_in (rowsV_in hv),(totV_in hv V).1,(totV_in hv V).2⟩
end Go.Proofs.YtpgbjabifhjogaaGreat

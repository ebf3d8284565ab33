/- Lemmas: Mrn. -/
import Derived.Deep.DeepCutAuto
import Derived.Deep.CutBlock
import Derived.Test.YtgbahnlgblahpaaGreatProg
import Derived.Deep.Strs
import Derived.Test.YtgbahnlgblahpaaGreatMkWw39
import Derived.Test.YtgbahnlgblahpaaGreatMkWw40
set_option linter.unusedVariables false
set_option linter.unusedSimpArgs false
set_option maxRecDepth 100000
set_option maxHeartbeats 16000000
namespace Go.Proofs.YtgbahnlgblahpaaGreat
open Go.RowKit
theorem store_vals {x:World} {r:SV} {g off v:Nat} {X:Int} {Bc Bi:Option Addr} (h:VIn x r (some ⟨g,off,none⟩) Bc Bi) (hv:v<r.vals.length) (gv:x.cell? ⟨g,off+v,none⟩=some (.int .i64 X)) (hd:∀b2 off2,Bi=some ⟨b2,off2,none⟩→b2≠g) (y:Int) :
  VIn (x.setCell ⟨g,off+v,none⟩ (.int .i64 y)) ⟨r.st,r.vals.set v y,r.chg,r.inb,r.sm,r.mo⟩ (some ⟨g,off,none⟩) Bc Bi:=by
 refine⟨fun hn=>?_,fun hn=>?_,fun hn=>?_⟩
 ·obtain⟨b,o,e,hb,hc⟩:=h.vals (fun e=>by rw[i64s,List.map_eq_nil_iff] at e;rw[e] at hv;simp at hv)
  injection e with e
  injection e with e1 e2
  subst e1 e2
  refine⟨g,off,rfl,by rw[World.size_setCell];exact hb,fun j u hj=>?_⟩
  rw[i64s,List.map_set,List.getElem?_set] at hj
  by_cases e:v=j
  ·subst e
   rw[if_pos rfl,if_pos (by rw[List.length_map];exact hv)] at hj
   injection hj with hj
   rw[←hj]
   exact World.cell?_setCell_same _ _ _ gv
  rw[if_neg e] at hj
  rw[World.cell?_setCell_other _ _ _ _ (fun q=>by injection q with q1 q2;omega)]
  exact hc j u hj
 ·obtain⟨b,o,e,hb,hc⟩:=h.chg hn
  refine⟨b,o,e,by rw[World.size_setCell];exact hb,fun j u hj=>?_⟩
  have h1:=hc j u hj
  rw[World.cell?_setCell_other _ _ _ _ (fun q=>?_)]
  ·exact h1
  rw[←q,gv] at h1
  injection h1 with h1
  rw[bools,List.getElem?_map] at hj
  obtain⟨z,_,hz⟩:=Option.map_eq_some_iff.1 hj
  rw[←h1] at hz
  cases hz
 obtain⟨b,o,e,hb,hc⟩:=h.inb hn
 have hne:=hd b o e
 refine⟨b,o,e,by rw[World.size_setCell];exact hb,fun j u hj=>?_⟩
 rw[World.cell?_setCell_other _ _ _ _ (fun q=>by injection q with q1 q2;exact hne q1.symm)]
 exact hc j u hj
theorem meaningRun_walk (w:World) (V:Int) (A:Option Addr) (es:List Ed) (c:Nat) (hv1:-9223372036854775808≤V) (hv2:V≤9223372036854775807) (hE:Eds w w.heap.size A es) (hlc:es.length≤c) (hcm:c≤9223372036854775807) (heb:∀e∈es,edB e) (k j1 j2 j3 j4:Int) (hkb:0≤k∧k≤255) (hj1b:i64B j1) (hj2b:i64B j2) (hj3b:i64B j3) (hj4b:i64B j4) (pt:Int) (hpt1:-9223372036854775808≤pt) (hpt2:pt≤9223372036854775807) (value:Int) (hva1:-9223372036854775808≤value) (hva2:value≤9223372036854775807) :
  Calls Tryz.prog 3 #[.agg #[.int .i64 V,.slice A es.length c],.agg #[.int .u8 k,.int .i64 j1,.int .i64 j2,.int .i64 j3,.int .i64 j4],.int .i64 pt,.int .i64 value] w fun e w'=>e = .returned (.bool true)∧Below w.heap.size w w':=by
 obtain⟨L,hL⟩:∃L,es.length=L:=⟨_,rfl⟩
 rw[hL] at hlc ⊢
 have hebw:∀e∈es,-9223372036854775808≤e.2.2∧e.2.2≤9223372036854775807:=fun e he=>by
  obtain⟨i,hi,rfl⟩:=List.getElem_of_mem he
  obtain⟨_,_,_,_,_,_,_,h1,h2⟩:=Eds.get hE (List.getElem?_eq_getElem hi)
  exact⟨h1,h2⟩
 obtain⟨u1,hu1⟩:∃u,w.alloc (.cells #[.int .i64 V,.slice A L c] 24)=u:=⟨_,rfl⟩
 obtain⟨u,hu⟩:∃u,u1.alloc (.cells #[.int .u8 k,.int .i64 j1,.int .i64 j2,.int .i64 j3,.int .i64 j4] 26)=u:=⟨_,rfl⟩
 have z1:u1.heap.size=w.heap.size+1:=by rw[←hu1];simp
 have z2:u.heap.size=w.heap.size+1+1:=by rw[←hu];simp[z1]
 have hb1:Below w.heap.size w u1:=by rw[←hu1];exact (Below.refl _ _).alloc (Nat.le_refl _) _
 have hb2:Below u1.heap.size u1 u:=by rw[←hu];exact (Below.refl _ _).alloc (Nat.le_refl _) _
 have hb:Below w.heap.size w u:=hb1.trans (hb2.mono (by omega))
 have M0:=hide (show u.heap[w.heap.size]?=some (.cells #[.int .i64 V,.slice A L c] 24) from (hb2.block _ (by omega)).trans (by rw[←hu1];exact heap_alloc_last _ _))
 have M1:=hide (show u.heap[w.heap.size+1]?=some (.cells #[.int .u8 k,.int .i64 j1,.int .i64 j2,.int .i64 j3,.int .i64 j4] 26) from by rw[←hu,←z1];exact heap_alloc_last _ _)
 have HB:=hide hb
 have HEu:Hid (Eds u u.heap.size A es):=hide ((Eds.below hE hb (Nat.le_refl _)).more hb.size)
 have HL:=hide hL
 have HEb:=hide hebw
 have hzu:w.heap.size+1<u.heap.size:=by omega
 have HU:=hide (And.intro hu1 hu)
 have HK0:=hide (Below.refl u.heap.size u)
 clear hu1 hu z1 z2 hb1 hb2 hb hE hL hebw heb
 obtain⟨a0,a1⟩:=zr2 ((HK0.out.block _ (by omega)).trans M0.out)
 obtain⟨b0,b1,b2,b3,b4⟩:=zr5 ((HK0.out.block _ (by omega)).trans M1.out)
 go_enter Tryz.func3,Tryz.ntmps3
 go_wp2_with fail
 rw[HU.out.1,HU.out.2]
 go_wp2_with fail
 refine (lt13_any u V A es L c HL.out HEu.out (by omega)).mono ?_
 rintro e y ⟨rfl,hy⟩
 have HKy:=hide hy
 clear hy
 clear a0 a1 b0 b1 b2 b3 b4
 obtain⟨lb,hlb⟩:∃q,lightB V L es=q:=⟨_,rfl⟩
 rw[hlb]
 have HLb:=hide hlb
 clear hlb
 rcases lb with _ | _
 ·obtain⟨a0,a1⟩:=zr2 ((HKy.out.block _ (by omega)).trans M0.out)
  obtain⟨b0,b1,b2,b3,b4⟩:=zr5 ((HKy.out.block _ (by omega)).trans M1.out)
  go_wp2_with fail
  refine (works_any y).mono ?_
  rintro e zf ⟨rfl,hz⟩
  have HF:=hide (HB.out.trans ((HKy.out.trans (hz.mono HKy.out.size)).mono HB.out.size))
  clear hz a0 a1 b0 b1 b2 b3 b4
  go_wp2
  go_ret
  exact⟨rfl,HF.out⟩
 have hL100:L≤100:=by have h:=HLb.out;unfold lightB at h;simp at h;omega
 obtain⟨a0,a1⟩:=zr2 ((HKy.out.block _ (by omega)).trans M0.out)
 obtain⟨b0,b1,b2,b3,b4⟩:=zr5 ((HKy.out.block _ (by omega)).trans M1.out)
 by_cases hst:40<j1
 ·go_wp2_with fail
  refine (works_any y).mono ?_
  rintro e zf ⟨rfl,hz⟩
  have HF:=hide (HB.out.trans ((HKy.out.trans (hz.mono HKy.out.size)).mono HB.out.size))
  clear hz a0 a1 b0 b1 b2 b3 b4
  go_wp2
  go_ret
  exact⟨rfl,HF.out⟩
 have hst2:¬(40:Int)<j1:=hst
 go_wp2_with fail
 refine (acheck_any y k j1 j2 j3 j4 V A es L c HL.out ((Eds.below HEu.out HKy.out (Nat.le_refl _)).more HKy.out.size) (by omega)).mono ?_
 rintro e y2 ⟨rfl,hy⟩
 have HK2:=hide (HKy.out.trans (hy.mono HKy.out.size))
 have huy:u.heap.size≤y2.heap.size:=HK2.out.size
 clear hy
 clear a0 a1 b0 b1 b2 b3 b4
 obtain⟨E,hEe⟩:∃q,acheckF k j1 j2 j3 j4 V es=q:=⟨_,rfl⟩
 rw[hEe]
 have HEe:=hide hEe
 clear hEe
 by_cases hE0:E=0
 ·subst hE0
  obtain⟨⟨hV1,hV5,hEB⟩,hk,hj0,hj1⟩:=acheck_ok HEe.out
  have hck0:=acheck_chk HEe.out
  have hV16:V≤16:=by have h:=HLb.out;unfold lightB at h;rw[hck0] at h;simp at h;omega
  have HEB:=hide hEB
  have HCk:=hide hck0
  obtain⟨M,rfl⟩:∃q:Nat,V=(q:Int):=⟨V.toNat,by omega⟩
  clear hEB hck0
  obtain⟨a0,a1⟩:=zr2 ((HK2.out.block _ (by omega)).trans M0.out)
  obtain⟨b0,b1,b2,b3,b4⟩:=zr5 ((HK2.out.block _ (by omega)).trans M1.out)
  go_wp2_with fail
  refine (qrun_any y2 (M:Int) A es L c HL.out (by omega) ((Eds.below HEu.out HK2.out (Nat.le_refl _)).more HK2.out.size) k j1 j2 j3 j4 (fun _=>⟨hL100,hV16⟩)).mono ?_
  rw[HEe.out]
  rintro e z (⟨h0,_⟩ | ⟨_,Bv,Bc,Bi,dv,dc,di,rfl,hin,hz,n1,n2,n3⟩)
  ·exact absurd rfl h0
  rw[show ((M:Int)).toNat=M from rfl] at hin ⊢
  have HKz:=hide (HK2.out.trans (hz.mono HK2.out.size))
  have HIN:=hide hin
  have HNu:=hide n1
  have hyz:y2.heap.size≤z.heap.size:=hz.size
  have hrun:=means_run (M:=M) HEe.out
  have hokn:=atV_ok (k:=k) (j2:=j2) (j3:=j3) (es:=es) (V:=M) (by omega) HEB.out (runN k j1 j2 j3 j4 es M)
  have hoff:=fun v x hv hne hs inb chg=>means_off (M:=M) (v:=v) (x:=x) HEe.out hv hne hs inb chg
  have hdone:=fun hk=>run_done (M:=M) HEe.out hk
  have hst:=atV_st k j2 j3 es M (runN k j1 j2 j3 j4 es M)
  obtain⟨N,hN⟩:∃q,runN k j1 j2 j3 j4 es M=q:=⟨_,rfl⟩
  rw[hN] at hrun hokn hoff hdone hst HIN ⊢
  have hN4:(N:Int)≤2000:=by have:=(runN_spec (j2:=j2) (j3:=j3) (j4:=j4) (es:=es) (V:=M) hk hj0).2.1;omega
  obtain⟨r,hr⟩:∃q,atV k j2 j3 es M N=q:=⟨_,rfl⟩
  rw[hr] at hrun hokn hoff hdone hst HIN ⊢
  have HOff:=hide hoff
  have HDone:=hide hdone
  have HRun:=hide hrun
  have HSt:=hide hst
  have hlr:VLen r M M M:=⟨hokn.lv,hokn.lc,hokn.li⟩
  have HLr:=hide hlr
  have HRb:=hide hokn.bv
  clear hin hz n1 n2 n3 hokn hr hlr hrun hoff hdone hst hN a0 a1 b0 b1 b2 b3 b4
  obtain⟨t,ht⟩:∃q,z.alloc (.cells #[.int .i64 r.st,.slice Bv M dv,.slice Bc M dc,.slice Bi M di,.int .i64 r.sm,.int .i64 r.mo] 35)=q:=⟨_,rfl⟩
  have hbt:Below z.heap.size z t:=by rw[←ht];exact (Below.refl _ _).alloc (Nat.le_refl _) _
  have htl:t.heap[z.heap.size]?=some (.cells #[.int .i64 r.st,.slice Bv M dv,.slice Bc M dc,.slice Bi M di,.int .i64 r.sm,.int .i64 r.mo] 35):=by rw[←ht];exact heap_alloc_last _ _
  have HTe:=hide ht
  have HKt:=hide (HKz.out.trans (hbt.mono HKz.out.size))
  have HINt:=hide (HIN.out.next hbt)
  have HNt:=hide (HNu.out.nextB hbt (Nat.le_refl _))
  clear ht
  go_upto_region 4 with fail
  rw[HTe.out]
  obtain⟨T,hT⟩:∃T,z.heap.size=T:=⟨_,rfl⟩
  rw[hT] at htl ⊢
  have HTl:=hide htl
  have hTt:T<t.heap.size:=lt_of_block htl
  have huT:u.heap.size≤T:=by rw[←hT];exact HKz.out.size
  have hyT:y2.heap.size≤T:=by rw[←hT];exact hyz
  have hgT0:∀b off,Bv=some ⟨b,off,none⟩→b<T:=fun b off e=>by rw[←hT];exact (HNu.out.2 b off e).1
  clear htl hbt HTe hT hyz
  have HQ0:=hide (Below.refl t.heap.size t)
  obtain⟨a0,a1⟩:=zr2 ((HKt.out.block _ (by omega)).trans M0.out)
  obtain⟨b0,b1,b2,b3,b4⟩:=zr5 ((HKt.out.block _ (by omega)).trans M1.out)
  obtain⟨d0,d1,d2,d3,d4,d5⟩:=zr6 ((HQ0.out.block _ hTt).trans HTl.out)
  go_wp2_with fail
  refine (means_any t (M:Int) A es L c k j1 j2 j3 j4 r Bv Bc Bi M M M dv dc di HL.out ((Eds.below HEu.out HKt.out (Nat.le_refl _)).more HKt.out.size) (by omega) HEb.out (fun _=>⟨hL100,hV16⟩) HLr.out HINt.out).mono ?_
  rintro e x ⟨rfl,hz⟩
  rw[HRun.out]
  have HKx:=hide (HKt.out.trans (hz.mono HKt.out.size))
  have HQx:=hide hz
  clear hz
  clear a0 a1 b0 b1 b2 b3 b4
  clear d0 d1 d2 d3 d4 d5
  obtain⟨a0,a1⟩:=zr2 ((HKx.out.block _ (by omega)).trans M0.out)
  obtain⟨b0,b1,b2,b3,b4⟩:=zr5 ((HKx.out.block _ (by omega)).trans M1.out)
  obtain⟨d0,d1,d2,d3,d4,d5⟩:=zr6 ((HQx.out.block _ hTt).trans HTl.out)
  go_upto_if 50 with fail
  go_cut [50] (fun v50 wc=>Hid (Below t.heap.size t wc))
  case first=>
   by_cases hjm:(M:Int)≤j1
   ·have hjd:decide ((M:Int)≤j1)=true:=decide_eq_true hjm
    go_wp2_with fail
    refine (labels_any x (M:Int) A es L c HL.out ((Eds.below HEu.out HKx.out (Nat.le_refl _)).more HKx.out.size) (by omega)).mono ?_
    rintro e x1 ⟨A1,c1,rfl,ho1,hz⟩
    rw[HCk.out]
    have HK1:=hide (HKx.out.trans (hz.mono HKx.out.size))
    have HQ1:=hide (HQx.out.trans (hz.mono HQx.out.size))
    have HO1:=hide (Rd.of_own ho1)
    clear hz ho1
    clear a0 a1 b0 b1 b2 b3 b4
    clear d0 d1 d2 d3 d4 d5
    obtain⟨ll,hll⟩:∃q,labL (M:Int) es=q:=⟨_,rfl⟩
    rw[hll] at HO1 ⊢
    have HLl:=hide hll
    obtain⟨ln,hln⟩:∃q,ll.length=q:=⟨_,rfl⟩
    rw[hln] at ⊢
    have HLn:=hide hln
    have hln5:ln≤100000:=by rw[←hln,←hll];exact labL_short _ _
    clear hll hln
    obtain⟨a0,a1⟩:=zr2 ((HK1.out.block _ (by omega)).trans M0.out)
    obtain⟨b0,b1,b2,b3,b4⟩:=zr5 ((HK1.out.block _ (by omega)).trans M1.out)
    obtain⟨d0,d1,d2,d3,d4,d5⟩:=zr6 ((HQ1.out.block _ hTt).trans HTl.out)
    go_wp2_with fail
    refine (distances_any x1 (M:Int) A es L c j2 HL.out ((Eds.below HEu.out HK1.out (Nat.le_refl _)).more HK1.out.size) (by omega) HEb.out).mono ?_
    rintro e x2 ⟨A2,c2,rfl,ho2,hz⟩
    rw[acheck_dist HEe.out]
    have HK2:=hide (HK1.out.trans (hz.mono HK1.out.size))
    have HQ2:=hide (HQ1.out.trans (hz.mono HQ1.out.size))
    have HO2:=hide (Rd.of_own ho2)
    have HO1b:=hide ((HO1.out.below hz).more hz.size)
    clear hz ho2
    clear a0 a1 b0 b1 b2 b3 b4
    clear d0 d1 d2 d3 d4 d5
    obtain⟨dl,hdl⟩:∃q,distL (M:Int) es j2=q:=⟨_,rfl⟩
    rw[hdl] at HO2 ⊢
    have HDl:=hide hdl
    obtain⟨dn,hdn⟩:∃q,dl.length=q:=⟨_,rfl⟩
    rw[hdn] at ⊢
    have HDn:=hide hdn
    have hdn5:dn≤100000:=by rw[←hdn,←hdl];exact distL_short _ _ _
    clear hdl hdn
    have HIN2:=hide (HINt.out.next HQ2.out)
    obtain⟨a0,a1⟩:=zr2 ((HK2.out.block _ (by omega)).trans M0.out)
    obtain⟨b0,b1,b2,b3,b4⟩:=zr5 ((HK2.out.block _ (by omega)).trans M1.out)
    obtain⟨d0,d1,d2,d3,d4,d5⟩:=zr6 ((HQ2.out.block _ hTt).trans HTl.out)
    rcases hk with h1 | h1 | h1
    ·have hq2:(k == 2)=false:=by rw[h1];rfl
     have hq3:(k == 3)=false:=by rw[h1];rfl
     have Hk1:=hide h1
     clear h1
     go_wp2
     go_meet
     case rel=>exact HQ2
    ·have hq2:(k == 2)=true:=by rw[h1];rfl
     have hq3:(k == 3)=false:=by rw[h1];rfl
     have Hk1:=hide h1
     clear h1
     have hvr:r.vals=ll:=((HDone.out (.inl Hk1.out)).2 (.inr hjm)).trans (by unfold resL;rw[if_pos Hk1.out,HLl.out])
     have HVr:=hide hvr
     clear hvr
     go_wp2_with fail
     refine (same64_any x2 Bv A1 r.vals ll M ln dv c1 HLr.out.1 HLn.out (by omega) HIN2.out.vals HO1b.out).mono ?_
     rintro e x3 ⟨rfl,hz⟩
     rw[HVr.out,show eqL ll ll=true by simp[eqL]]
     have HQ3:=hide (HQ2.out.trans (hz.mono HQ2.out.size))
     have HK3:=hide (HK2.out.trans (hz.mono HK2.out.size))
     clear hz a0 a1 b0 b1 b2 b3 b4 d0 d1 d2 d3 d4 d5
     obtain⟨a0,a1⟩:=zr2 ((HK3.out.block _ (by omega)).trans M0.out)
     obtain⟨b0,b1,b2,b3,b4⟩:=zr5 ((HK3.out.block _ (by omega)).trans M1.out)
     go_wp2
     go_meet
     case rel=>exact HQ3
    have hq2:(k == 2)=false:=by rw[h1];rfl
    have hq3:(k == 3)=true:=by rw[h1];rfl
    have Hk1:=hide h1
    clear h1
    have hvr:r.vals=dl:=((HDone.out (.inr Hk1.out)).2 (.inr hjm)).trans (by unfold resL;rw[if_neg (by rw[Hk1.out];decide),HDl.out])
    have HVr:=hide hvr
    clear hvr
    go_wp2_with fail
    refine (same64_any x2 Bv A2 r.vals dl M dn dv c2 HLr.out.1 HDn.out (by omega) HIN2.out.vals HO2.out).mono ?_
    rintro e x3 ⟨rfl,hz⟩
    rw[HVr.out,show eqL dl dl=true by simp[eqL]]
    have HQ3:=hide (HQ2.out.trans (hz.mono HQ2.out.size))
    have HK3:=hide (HK2.out.trans (hz.mono HK2.out.size))
    clear hz a0 a1 b0 b1 b2 b3 b4 d0 d1 d2 d3 d4 d5
    obtain⟨a0,a1⟩:=zr2 ((HK3.out.block _ (by omega)).trans M0.out)
    obtain⟨b0,b1,b2,b3,b4⟩:=zr5 ((HK3.out.block _ (by omega)).trans M1.out)
    go_wp2
    go_meet
    case rel=>exact HQ3
   have hjd:decide ((M:Int)≤j1)=false:=decide_eq_false hjm
   go_wp2
   go_meet
   case rel=>exact HQx
  case rest=>
   clear HQx HKx
   clear a0 a1 b0 b1 b2 b3 b4
   clear d0 d1 d2 d3 d4 d5
   have HQ:=hcut
   have HK:=hide (HKt.out.trans (HQ.out.mono HKt.out.size))
   obtain⟨x,rfl⟩:∃q:World,q=wc:=⟨_,rfl⟩
   obtain⟨a0,a1⟩:=zr2 ((HK.out.block _ (by omega)).trans M0.out)
   obtain⟨b0,b1,b2,b3,b4⟩:=zr5 ((HK.out.block _ (by omega)).trans M1.out)
   obtain⟨d0,d1,d2,d3,d4,d5⟩:=zr6 ((HQ.out.block _ hTt).trans HTl.out)
   go_wp2_with fail
   refine (pick_any x pt (M:Int) hpt1 hpt2 (by omega) (by omega)).mono ?_
   rintro e x ⟨rfl,rfl⟩
   obtain⟨hp1,hp2⟩:=pick_rng pt (M:Int) (by omega)
   obtain⟨v,hv⟩:=Int.eq_ofNat_of_zero_le hp1
   rw[hv] at hp2 ⊢
   have hvM:v<M:=by omega
   clear hv hp1
   have HIx:=hide (HINt.out.next HQ.out)
   have HNx:=hide (HNt.out.nextB HQ.out (Nat.le_refl _))
   obtain⟨g,off,rfl,hgl,hgc⟩:=HIx.out.vals.at_ (k:=v) (by rw[i64s,List.length_map,HLr.out.1];exact hvM)
   have gx:at_ r.vals (v:Int)=r.vals[v]'(by rw[HLr.out.1];exact hvM):=by rw[at_nat,List.getElem?_eq_getElem (by rw[HLr.out.1];exact hvM)];rfl
   have gv:=hgc v _ (by rw[i64s,List.getElem?_map,List.getElem?_eq_getElem (by rw[HLr.out.1];exact hvM)];rfl)
   rw[←gx] at gv
   obtain⟨X,hX⟩:∃q,at_ r.vals (v:Int)=q:=⟨_,rfl⟩
   rw[hX] at gv
   have HXe:=hide hX
   have hv0:(0:Int)≤(v:Int):=by omega
   clear gx hX hgc
   obtain⟨hfz1,hfz2,hfz3⟩:=HNx.out.2 g off rfl
   have gf:=hfz2 (off+v)
   have hgT:g<T:=hgT0 g off rfl
   have hgy:y2.heap.size≤g:=HNx.out.1 g off rfl
   have hxs:=HQ.out.size
   have HFz3:=hide hfz3
   have HV0:=hide (show v<r.vals.length by rw[HLr.out.1];exact hvM)
   clear hfz1 hfz2 hfz3
   by_cases hval:X=value
   ·have hvb:(X == value)=true:=by simpa using hval
    have HVe:=hide hval
    clear hval
    go_wp2_with fail
    refine (works_any x).mono ?_
    rintro e zf ⟨rfl,hz⟩
    have HF:=hide (HB.out.trans ((HK.out.trans (hz.mono HK.out.size)).mono HB.out.size))
    clear hz gv gf a0 a1 b0 b1 b2 b3 b4 d0 d1 d2 d3 d4 d5
    go_wp2
    go_ret
    exact⟨rfl,HF.out⟩
   have hvb:(X == value)=false:=by simpa using hval
   have HVe:=hide hval
   clear hval
   by_cases hsj:r.st=j1
   ·have hsb:(r.st == j1)=true:=by simpa using hsj
    have HSj:=hide hsj
    clear hsj
    by_cases hjl:j1<(M:Int)
    ·go_wp2_with fail
     refine (works_any x).mono ?_
     rintro e zf ⟨rfl,hz⟩
     have HF:=hide (HB.out.trans ((HK.out.trans (hz.mono HK.out.size)).mono HB.out.size))
     clear hz gv gf a0 a1 b0 b1 b2 b3 b4 d0 d1 d2 d3 d4 d5
     go_wp2
     go_ret
     exact⟨rfl,HF.out⟩
    have hml:(M:Int)≤j1:=by omega
    have hoff:=HOff.out v value hvM (by rw[HXe.out];exact HVe.out) (fun h=>by have:=h.2;omega) r.inb r.chg
    have HOf:=hide hoff
    clear hoff
    obtain⟨f,hf⟩:∃q,x.setCell ⟨g,off+v,none⟩ (.int .i64 value)=q:=⟨_,rfl⟩
    have hff:FarG g x f:=by rw[←hf];exact (FarS.refl g g x).set (p:=⟨g,off+v,none⟩) (.inl rfl) _
    have HIf:Hid (VIn f ⟨r.st,r.vals.set v value,r.chg,r.inb,r.sm,r.mo⟩ (some ⟨g,off,none⟩) Bc Bi):=hide (by rw[←hf];exact store_vals HIx.out HV0.out gv HFz3.out value)
    have HLf:Hid (VLen ⟨r.st,r.vals.set v value,r.chg,r.inb,r.sm,r.mo⟩ M M M):=hide ⟨by show (r.vals.set v value).length=M;rw[List.length_set];exact HLr.out.1,HLr.out.2.1,HLr.out.2.2⟩
    have HKf:=hide (HK.out.trans (hff.below (by omega) (by omega)))
    have HTf:=hide ((hff.block T (by omega) (by omega)).trans ((HQ.out.block T hTt).trans HTl.out))
    have HFe:=hide hf
    have hfs:f.heap.size=x.heap.size:=hff.size
    clear hf hff
    go_upto_region 17 with fail
    rw[HFe.out]
    clear a0 a1 b0 b1 b2 b3 b4
    clear d0 d1 d2 d3 d4 d5
    clear gv gf hfs
    obtain⟨a0,a1⟩:=zr2 ((HKf.out.block _ (by omega)).trans M0.out)
    obtain⟨b0,b1,b2,b3,b4⟩:=zr5 ((HKf.out.block _ (by omega)).trans M1.out)
    obtain⟨d0,d1,d2,d3,d4,d5⟩:=zr6 HTf.out
    go_wp2_with fail
    refine (means_any f (M:Int) A es L c k j1 j2 j3 j4 ⟨r.st,r.vals.set v value,r.chg,r.inb,r.sm,r.mo⟩ (some ⟨g,off,none⟩) Bc Bi M M M dv dc di HL.out ((Eds.below HEu.out HKf.out (Nat.le_refl _)).more HKf.out.size) (by omega) HEb.out (fun _=>⟨hL100,hV16⟩) HLf.out HIf.out).mono ?_
    rintro e q ⟨rfl,hz⟩
    rw[HOf.out]
    have HKq:=hide (HKf.out.trans (hz.mono HKf.out.size))
    clear hz
    clear a0 a1 b0 b1 b2 b3 b4
    clear d0 d1 d2 d3 d4 d5
    go_wp2_with fail
    refine (works_any q).mono ?_
    rintro e zf ⟨rfl,hz⟩
    have HF:=hide (HB.out.trans ((HKq.out.trans (hz.mono HKq.out.size)).mono HB.out.size))
    clear hz
    go_wp2
    go_ret
    exact⟨rfl,HF.out⟩
   have hsb:(r.st == j1)=false:=by simpa using hsj
   have HSj:=hide hsj
   clear hsj
   have hoff:=HOff.out v value hvM (by rw[HXe.out];exact HVe.out) (fun h=>HSj.out (by rw[HSt.out];exact h.1)) r.inb r.chg
   have HOf:=hide hoff
   clear hoff
   obtain⟨f,hf⟩:∃q,x.setCell ⟨g,off+v,none⟩ (.int .i64 value)=q:=⟨_,rfl⟩
   have hff:FarG g x f:=by rw[←hf];exact (FarS.refl g g x).set (p:=⟨g,off+v,none⟩) (.inl rfl) _
   have HIf:Hid (VIn f ⟨r.st,r.vals.set v value,r.chg,r.inb,r.sm,r.mo⟩ (some ⟨g,off,none⟩) Bc Bi):=hide (by rw[←hf];exact store_vals HIx.out HV0.out gv HFz3.out value)
   have HLf:Hid (VLen ⟨r.st,r.vals.set v value,r.chg,r.inb,r.sm,r.mo⟩ M M M):=hide ⟨by show (r.vals.set v value).length=M;rw[List.length_set];exact HLr.out.1,HLr.out.2.1,HLr.out.2.2⟩
   have HKf:=hide (HK.out.trans (hff.below (by omega) (by omega)))
   have HTf:=hide ((hff.block T (by omega) (by omega)).trans ((HQ.out.block T hTt).trans HTl.out))
   have HFe:=hide hf
   have hfs:f.heap.size=x.heap.size:=hff.size
   clear hf hff
   go_upto_region 17 with fail
   rw[HFe.out]
   clear a0 a1 b0 b1 b2 b3 b4
   clear d0 d1 d2 d3 d4 d5
   clear gv gf hfs
   obtain⟨a0,a1⟩:=zr2 ((HKf.out.block _ (by omega)).trans M0.out)
   obtain⟨b0,b1,b2,b3,b4⟩:=zr5 ((HKf.out.block _ (by omega)).trans M1.out)
   obtain⟨d0,d1,d2,d3,d4,d5⟩:=zr6 HTf.out
   go_wp2_with fail
   refine (means_any f (M:Int) A es L c k j1 j2 j3 j4 ⟨r.st,r.vals.set v value,r.chg,r.inb,r.sm,r.mo⟩ (some ⟨g,off,none⟩) Bc Bi M M M dv dc di HL.out ((Eds.below HEu.out HKf.out (Nat.le_refl _)).more HKf.out.size) (by omega) HEb.out (fun _=>⟨hL100,hV16⟩) HLf.out HIf.out).mono ?_
   rintro e q ⟨rfl,hz⟩
   rw[HOf.out]
   have HKq:=hide (HKf.out.trans (hz.mono HKf.out.size))
   clear hz
   clear a0 a1 b0 b1 b2 b3 b4
   clear d0 d1 d2 d3 d4 d5
   go_wp2_with fail
   refine (works_any q).mono ?_
   rintro e zf ⟨rfl,hz⟩
   have HF:=hide (HB.out.trans ((HKq.out.trans (hz.mono HKq.out.size)).mono HB.out.size))
   clear hz
   go_wp2
   go_ret
   exact⟨rfl,HF.out⟩
 have hE1:(E == 0)=false:=by simpa using hE0
 have hE2:(E != 0)=true:=by simpa using hE0
 obtain⟨a0,a1⟩:=zr2 ((HK2.out.block _ (by omega)).trans M0.out)
 obtain⟨b0,b1,b2,b3,b4⟩:=zr5 ((HK2.out.block _ (by omega)).trans M1.out)
 go_wp2_with fail
 refine (works_any y2).mono ?_
 rintro e zf ⟨rfl,hz⟩
 have HF:=hide (HB.out.trans ((HK2.out.trans (hz.mono HK2.out.size)).mono HB.out.size))
 clear hz a0 a1 b0 b1 b2 b3 b4
 go_wp2
 go_ret
 exact⟨rfl,HF.out⟩
end Go.Proofs.YtgbahnlgblahpaaGreat

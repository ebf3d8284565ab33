/- Lemmas: Mmd, Mmw, Mkp, Mkn. -/
import Derived.Test.YtgbahnlgblahpaaGreatProg
import Derived.Deep.Strs
import Derived.Test.YtgbahnlgblahpaaGreatMkWw41
import Derived.Test.YtgbahnlgblahpaaGreatMkWw45
import Derived.Test.YtgbahnlgblahpaaGreatMkWw49
set_option linter.unusedVariables false
set_option linter.unusedSimpArgs false
set_option maxRecDepth 100000
set_option maxHeartbeats 16000000
namespace Go.Proofs.YtgbahnlgblahpaaGreat
open Go.RowKit
theorem rmeans_any (w:World) (V:Int) (A:Option Addr) (es:List Ed) (L c:Nat) (k j1 j2 j3 j4:Int) (s:SV) (Av Ac Ai:Option Addr) (nv nc ni cv cc ci:Nat) (hL:es.length=L) (hE:Eds w w.heap.size A es) (hc:L≤8192) (heb:∀e∈es,-9223372036854775808≤e.2.2∧e.2.2≤9223372036854775807)
  (hG:acheckF k j1 j2 j3 j4 V es=0→L≤100∧V≤16) (hl:VLen s nv nc ni) (hi:VIn w s Av Ac Ai) :
  Calls Tryz.prog 42 #[.agg #[.int .i64 V,.slice A L c],.agg #[.int .u8 k,.int .i64 j1,.int .i64 j2,.int .i64 j3,.int .i64 j4],.agg #[.int .i64 s.st,.slice Av nv cv,.slice Ac nc cc,.slice Ai ni ci,.int .i64 s.sm,.int .i64 s.mo]] w fun e w'=>e = .returned (.bool (meansF k j1 j2 j3 j4 V es s))∧Below w.heap.size w w':=by
 obtain⟨u1,hu1⟩:∃u,w.alloc (.cells #[.int .i64 V,.slice A L c] 24)=u:=⟨_,rfl⟩
 obtain⟨u2,hu2⟩:∃u,u1.alloc (.cells #[.int .u8 k,.int .i64 j1,.int .i64 j2,.int .i64 j3,.int .i64 j4] 26)=u:=⟨_,rfl⟩
 obtain⟨u,hu⟩:∃u,u2.alloc (.cells #[.int .i64 s.st,.slice Av nv cv,.slice Ac nc cc,.slice Ai ni ci,.int .i64 s.sm,.int .i64 s.mo] 35)=u:=⟨_,rfl⟩
 have z1:u1.heap.size=w.heap.size+1:=by rw[←hu1];simp
 have z2:u2.heap.size=w.heap.size+1+1:=by rw[←hu2];simp[z1]
 have z3:u.heap.size=w.heap.size+1+1+1:=by rw[←hu];simp[z2]
 have b1:Below w.heap.size w u1:=by rw[←hu1];exact (Below.refl _ _).alloc (Nat.le_refl _) _
 have b2:Below u1.heap.size u1 u2:=by rw[←hu2];exact (Below.refl _ _).alloc (Nat.le_refl _) _
 have b3:Below u2.heap.size u2 u:=by rw[←hu];exact (Below.refl _ _).alloc (Nat.le_refl _) _
 have hb:Below w.heap.size w u:=(b1.trans (b2.mono (by omega))).trans (b3.mono (by omega))
 have M0:=hide (show u.heap[w.heap.size]?=some (.cells #[.int .i64 V,.slice A L c] 24) from (b3.block _ (by omega)).trans ((b2.block _ (by omega)).trans (by rw[←hu1];exact heap_alloc_last _ _)))
 have M1:=hide (show u.heap[w.heap.size+1]?=some (.cells #[.int .u8 k,.int .i64 j1,.int .i64 j2,.int .i64 j3,.int .i64 j4] 26) from (b3.block _ (by omega)).trans (by rw[←hu2,←z1];exact heap_alloc_last _ _))
 have M2:=hide (show u.heap[w.heap.size+1+1]?=some (.cells #[.int .i64 s.st,.slice Av nv cv,.slice Ac nc cc,.slice Ai ni ci,.int .i64 s.sm,.int .i64 s.mo] 35) from by rw[←hu,←z2];exact heap_alloc_last _ _)
 have HB:=hide hb
 have HEu:Hid (Eds u u.heap.size A es):=hide ((Eds.below hE hb (Nat.le_refl _)).more hb.size)
 have HIu:=hide (hi.next hb)
 have HL:=hide hL
 have HLn:=hide hl
 have HEb:=hide heb
 have HGe:=hide hG
 have hzu:w.heap.size+1+1<u.heap.size:=by omega
 have HU:=hide (And.intro hu1 (And.intro hu2 hu))
 have HK0:=hide (Below.refl u.heap.size u)
 clear hu1 hu2 hu z1 z2 z3 b1 b2 b3 hb hE hi hL hl heb hG
 obtain⟨a0,a1⟩:=zr2 ((HK0.out.block _ (by omega)).trans M0.out)
 obtain⟨b0,b1,b2,b3,b4⟩:=zr5 ((HK0.out.block _ (by omega)).trans M1.out)
 obtain⟨c0,c1,c2,c3,c4,c5⟩:=zr6 ((HK0.out.block _ (by omega)).trans M2.out)
 go_enter Tryz.func42,Tryz.ntmps42
 go_wp2_with fail
 rw[HU.out.1,HU.out.2.1,HU.out.2.2]
 refine (racheck_any _ k j1 j2 j3 j4 V A es L c HL.out HEu.out (by omega)).mono ?_
 rintro e y ⟨rfl,hy⟩
 have HKy:=hide hy
 clear hy
 clear a0 a1 b0 b1 b2 b3 b4 c0 c1 c2 c3 c4 c5
 obtain⟨E,hEe⟩:∃q,acheckF k j1 j2 j3 j4 V es=q:=⟨_,rfl⟩
 rw[hEe]
 have HEe:=hide hEe
 clear hEe
 by_cases hE0:E=0
 ·subst hE0
  obtain⟨⟨hV1,hV5,hEB⟩,hk,hj0,hj1⟩:=acheck_ok HEe.out
  have hck0:=acheck_chk HEe.out
  have hgg:=HGe.out HEe.out
  have HEB:=hide hEB
  clear hEB
  rcases hk with rfl | rfl | rfl
  ·obtain⟨a0,a1⟩:=zr2 ((HKy.out.block _ (by omega)).trans M0.out)
   obtain⟨b0,b1,b2,b3,b4⟩:=zr5 ((HKy.out.block _ (by omega)).trans M1.out)
   obtain⟨c0,c1,c2,c3,c4,c5⟩:=zr6 ((HKy.out.block _ (by omega)).trans M2.out)
   go_wp2_with fail
   refine (qrrun_any y V A es L c HL.out (by omega) ((Eds.below HEu.out HKy.out (Nat.le_refl _)).more HKy.out.size) 1 j1 j2 j3 j4 (fun _=>hgg)).mono ?_
   rw[HEe.out]
   rintro e z (⟨h0,_⟩ | ⟨_,Bv,Bc,Bi,dv,dc,di,rfl,hin,hz,-⟩)
   ·exact absurd rfl h0
   have HKz:=hide (HKy.out.trans (hz.mono HKy.out.size))
   have HIN:=hide hin
   obtain⟨M,rfl⟩:∃q:Nat,V=(q:Int):=⟨V.toNat,by omega⟩
   rw[show ((M:Int)).toNat=M from rfl] at HIN ⊢
   have hokn:=atV_ok (k:=1) (j2:=j2) (j3:=j3) (es:=es) (V:=M) (by omega) HEB.out (runN 1 j1 j2 j3 j4 es M)
   obtain⟨r,hr⟩:∃q,atV 1 j2 j3 es M (runN 1 j1 j2 j3 j4 es M)=q:=⟨_,rfl⟩
   rw[hr] at hokn HIN ⊢
   have HRr:=hide hr
   have hlr:VLen r M M M:=⟨hokn.lv,hokn.lc,hokn.li⟩
   have HLr:=hide hlr
   clear hin hz hokn hr hlr a0 a1 b0 b1 b2 b3 b4 c0 c1 c2 c3 c4 c5
   obtain⟨t,ht⟩:∃q,z.alloc (.cells #[.int .i64 r.st,.slice Bv M dv,.slice Bc M dc,.slice Bi M di,.int .i64 r.sm,.int .i64 r.mo] 35)=q:=⟨_,rfl⟩
   have hbt:Below z.heap.size z t:=by rw[←ht];exact (Below.refl _ _).alloc (Nat.le_refl _) _
   have htl:t.heap[z.heap.size]?=some (.cells #[.int .i64 r.st,.slice Bv M dv,.slice Bc M dc,.slice Bi M di,.int .i64 r.sm,.int .i64 r.mo] 35):=by rw[←ht];exact heap_alloc_last _ _
   have HTe:=hide ht
   have HKt:=hide (HKz.out.trans (hbt.mono HKz.out.size))
   have HINt:=hide (HIN.out.next hbt)
   clear ht
   go_upto_region 5 with fail
   rw[HTe.out]
   obtain⟨T,hT⟩:∃T,z.heap.size=T:=⟨_,rfl⟩
   rw[hT] at htl ⊢
   obtain⟨d0,d1,d2,d3,d4,d5⟩:=zr6 htl
   obtain⟨a0,a1⟩:=zr2 ((HKt.out.block _ (by omega)).trans M0.out)
   obtain⟨b0,b1,b2,b3,b4⟩:=zr5 ((HKt.out.block _ (by omega)).trans M1.out)
   obtain⟨c0,c1,c2,c3,c4,c5⟩:=zr6 ((HKt.out.block _ (by omega)).trans M2.out)
   clear htl hbt HTe hT
   go_wp2_with fail
   refine (qrsame_any t r Bv Bc Bi M M M dv dc di HLr.out HINt.out s Av Ac Ai nv nc ni cv cc ci HLn.out (HIu.out.next HKt.out) (by omega) (by omega) (by omega)).mono ?_
   rintro e z9 ⟨rfl,hz⟩
   have HKf:=hide (HKt.out.trans (hz.mono HKt.out.size))
   clear hz d0 d1 d2 d3 d4 d5 a0 a1 b0 b1 b2 b3 b4 c0 c1 c2 c3 c4 c5
   have HF:=hide (HB.out.trans (HKf.out.mono HB.out.size))
   have HR:Hid (meansF 1 j1 j2 j3 j4 (M:Int) es s=sameV r s):=hide (by unfold meansF;rw[if_neg (by rw[HEe.out];decide),if_pos rfl,←HRr.out];rfl)
   go_wp2
   go_ret
   exact⟨ret_b (by rw[HR.out]),HF.out⟩
  ·by_cases hs0:s.st<0
   ·obtain⟨a0,a1⟩:=zr2 ((HKy.out.block _ (by omega)).trans M0.out)
    obtain⟨b0,b1,b2,b3,b4⟩:=zr5 ((HKy.out.block _ (by omega)).trans M1.out)
    obtain⟨c0,c1,c2,c3,c4,c5⟩:=zr6 ((HKy.out.block _ (by omega)).trans M2.out)
    have HKf:=HKy
    have HF:=hide (HB.out.trans (HKf.out.mono HB.out.size))
    have HR:Hid (meansF 2 j1 j2 j3 j4 V es s=false):=hide (by unfold meansF;rw[if_neg (by rw[HEe.out];decide),if_neg (by decide),if_pos (.inl hs0)])
    go_wp2
    go_ret
    exact⟨ret_b (by rw[HR.out]),HF.out⟩
   have hs0':0≤s.st:=by omega
   by_cases hs1:j1<s.st
   ·obtain⟨a0,a1⟩:=zr2 ((HKy.out.block _ (by omega)).trans M0.out)
    obtain⟨b0,b1,b2,b3,b4⟩:=zr5 ((HKy.out.block _ (by omega)).trans M1.out)
    obtain⟨c0,c1,c2,c3,c4,c5⟩:=zr6 ((HKy.out.block _ (by omega)).trans M2.out)
    have HKf:=HKy
    have HF:=hide (HB.out.trans (HKf.out.mono HB.out.size))
    have HR:Hid (meansF 2 j1 j2 j3 j4 V es s=false):=hide (by unfold meansF;rw[if_neg (by rw[HEe.out];decide),if_neg (by decide),if_pos (.inr hs1)])
    go_wp2
    go_ret
    exact⟨ret_b (by rw[HR.out]),HF.out⟩
   have hs1':s.st≤j1:=by omega
   by_cases hs2:s.st=j1
   ·have HS2:=hide hs2
    have hs2b:(s.st == j1)=true:=by simpa using hs2
    have hst2:s.st≤2000:=by omega
    clear hs2
    obtain⟨a0,a1⟩:=zr2 ((HKy.out.block _ (by omega)).trans M0.out)
    obtain⟨b0,b1,b2,b3,b4⟩:=zr5 ((HKy.out.block _ (by omega)).trans M1.out)
    obtain⟨c0,c1,c2,c3,c4,c5⟩:=zr6 ((HKy.out.block _ (by omega)).trans M2.out)
    have HAt:Hid (atE 0 s.st=0):=hide (by unfold atE;rw[if_neg (by decide),if_neg (by omega)])
    go_wp2_with fail
    refine (qrat_any y V A es L c HL.out (by omega) ((Eds.below HEu.out HKy.out (Nat.le_refl _)).more HKy.out.size) 2 j1 j2 j3 j4 s.st (fun _=>hgg)).mono ?_
    rw[HEe.out,HAt.out]
    rintro e z (⟨h0,_⟩ | ⟨_,Bv,Bc,Bi,dv,dc,di,rfl,hin,hz,-⟩)
    ·exact absurd rfl h0
    have HKz:=hide (HKy.out.trans (hz.mono HKy.out.size))
    have HIN:=hide hin
    have hvt:V.toNat≤512:=by omega
    have hokn:=atV_ok (k:=2) (j2:=j2) (j3:=j3) (es:=es) (V:=V.toNat) (by omega) HEB.out s.st.toNat
    obtain⟨r,hr⟩:∃q,atV 2 j2 j3 es V.toNat s.st.toNat=q:=⟨_,rfl⟩
    rw[hr] at hokn HIN ⊢
    have HRr:=hide hr
    obtain⟨M,hM⟩:∃q,V.toNat=q:=⟨_,rfl⟩
    rw[hM] at hokn hvt ⊢
    have HMe:=hide hM
    have hlr:VLen r M M M:=⟨hokn.lv,hokn.lc,hokn.li⟩
    have HLr:=hide hlr
    clear hin hz hokn hr hlr hM a0 a1 b0 b1 b2 b3 b4 c0 c1 c2 c3 c4 c5
    obtain⟨t,ht⟩:∃q,z.alloc (.cells #[.int .i64 r.st,.slice Bv M dv,.slice Bc M dc,.slice Bi M di,.int .i64 r.sm,.int .i64 r.mo] 35)=q:=⟨_,rfl⟩
    have hbt:Below z.heap.size z t:=by rw[←ht];exact (Below.refl _ _).alloc (Nat.le_refl _) _
    have htl:t.heap[z.heap.size]?=some (.cells #[.int .i64 r.st,.slice Bv M dv,.slice Bc M dc,.slice Bi M di,.int .i64 r.sm,.int .i64 r.mo] 35):=by rw[←ht];exact heap_alloc_last _ _
    have HTe:=hide ht
    have HKt:=hide (HKz.out.trans (hbt.mono HKz.out.size))
    have HINt:=hide (HIN.out.next hbt)
    clear ht
    go_upto_region 10 with fail
    rw[HTe.out]
    obtain⟨T,hT⟩:∃T,z.heap.size=T:=⟨_,rfl⟩
    rw[hT] at htl ⊢
    have d1:t.cell? ⟨T,1,none⟩=some (.slice Bv M dv):=cell_of_row _ _ 1 _ _ _ htl
    obtain⟨a0,a1⟩:=zr2 ((HKt.out.block _ (by omega)).trans M0.out)
    obtain⟨b0,b1,b2,b3,b4⟩:=zr5 ((HKt.out.block _ (by omega)).trans M1.out)
    obtain⟨c0,c1,c2,c3,c4,c5⟩:=zr6 ((HKt.out.block _ (by omega)).trans M2.out)
    clear htl hbt HTe hT
    go_wp2_with fail
    refine (rsv_any t Bv Av r.vals s.vals M nv dv cv HLr.out.1 HLn.out.1 (by omega) HINt.out.vals (HIu.out.next HKt.out).vals).mono ?_
    rintro e z2 ⟨rfl,hz⟩
    have HKf:=hide (HKt.out.trans (hz.mono HKt.out.size))
    clear hz d1 a0 a1 b0 b1 b2 b3 b4 c0 c1 c2 c3 c4 c5
    rcases hq:eqL r.vals s.vals with _ | _
    ·have HQ:=hide hq
     clear hq
     obtain⟨a0,a1⟩:=zr2 ((HKf.out.block _ (by omega)).trans M0.out)
     obtain⟨b0,b1,b2,b3,b4⟩:=zr5 ((HKf.out.block _ (by omega)).trans M1.out)
     obtain⟨c0,c1,c2,c3,c4,c5⟩:=zr6 ((HKf.out.block _ (by omega)).trans M2.out)
     go_wp2_with fail
     refine (rlabels_any z2 V A es L c HL.out ((Eds.below HEu.out HKf.out (Nat.le_refl _)).more HKf.out.size) hc).mono ?_
     rintro e z ⟨A9,c9,rfl,ho,hz⟩
     have HKz:=hide (HKf.out.trans (hz.mono HKf.out.size))
     have HO:=hide (Rd.of_own ho)
     clear hz ho
     clear a0 a1 b0 b1 b2 b3 b4 c0 c1 c2 c3 c4 c5
     obtain⟨dl,hdl⟩:∃q,labL V es=q:=⟨_,rfl⟩
     rw[hdl] at HO ⊢
     obtain⟨dn,hdn⟩:∃q,dl.length=q:=⟨_,rfl⟩
     have HDn:=hide hdn
     have hdn2:dn≤100000:=by rw[←hdn,←hdl];exact labL_short V es
     have HDl:=hide hdl
     rw[hdn] at ⊢
     clear hdl hdn
     obtain⟨a0,a1⟩:=zr2 ((HKz.out.block _ (by omega)).trans M0.out)
     obtain⟨b0,b1,b2,b3,b4⟩:=zr5 ((HKz.out.block _ (by omega)).trans M1.out)
     obtain⟨c0,c1,c2,c3,c4,c5⟩:=zr6 ((HKz.out.block _ (by omega)).trans M2.out)
     go_wp2_with fail
     refine (rsv_any z A9 Av dl s.vals dn nv c9 cv HDn.out HLn.out.1 (by omega) HO.out ((HIu.out.next HKz.out).vals)).mono ?_
     rintro e z1 ⟨rfl,hz⟩
     have HKf:=hide (HKz.out.trans (hz.mono HKz.out.size))
     clear hz
     clear a0 a1 b0 b1 b2 b3 b4 c0 c1 c2 c3 c4 c5
     have HF:=hide (HB.out.trans (HKf.out.mono HB.out.size))
     have HR:Hid (meansF 2 j1 j2 j3 j4 V es s=eqL dl s.vals):=hide (by unfold meansF;rw[if_neg (by rw[HEe.out];decide),if_neg (by decide),if_neg (fun h=>by rcases h with h | h <;> omega),if_neg (fun h=>by have h9:=HQ.out;rw[←HRr.out] at h9;rw[h.2] at h9;simp[eqL] at h9),if_pos rfl,HDl.out])
     go_wp2
     go_ret
     exact⟨ret_b (by rw[HR.out]),HF.out⟩
    have HQ:=hide hq
    clear hq
    have HF:=hide (HB.out.trans (HKf.out.mono HB.out.size))
    have HR:Hid (meansF 2 j1 j2 j3 j4 V es s=true):=hide (by unfold meansF;rw[if_neg (by rw[HEe.out];decide),if_neg (by decide),if_neg (fun h=>by rcases h with h | h <;> omega),if_pos ⟨HS2.out,by have h9:=HQ.out;rw[←HRr.out] at h9;simpa [eqL] using h9⟩])
    go_wp2
    go_ret
    exact⟨ret_b (by rw[HR.out]),HF.out⟩
   obtain⟨a0,a1⟩:=zr2 ((HKy.out.block _ (by omega)).trans M0.out)
   obtain⟨b0,b1,b2,b3,b4⟩:=zr5 ((HKy.out.block _ (by omega)).trans M1.out)
   obtain⟨c0,c1,c2,c3,c4,c5⟩:=zr6 ((HKy.out.block _ (by omega)).trans M2.out)
   go_wp2_with fail
   refine (rlabels_any y V A es L c HL.out ((Eds.below HEu.out HKy.out (Nat.le_refl _)).more HKy.out.size) hc).mono ?_
   rintro e z ⟨A9,c9,rfl,ho,hz⟩
   have HKz:=hide (HKy.out.trans (hz.mono HKy.out.size))
   have HO:=hide (Rd.of_own ho)
   clear hz ho
   clear a0 a1 b0 b1 b2 b3 b4 c0 c1 c2 c3 c4 c5
   obtain⟨dl,hdl⟩:∃q,labL V es=q:=⟨_,rfl⟩
   rw[hdl] at HO ⊢
   obtain⟨dn,hdn⟩:∃q,dl.length=q:=⟨_,rfl⟩
   have HDn:=hide hdn
   have hdn2:dn≤100000:=by rw[←hdn,←hdl];exact labL_short V es
   have HDl:=hide hdl
   rw[hdn] at ⊢
   clear hdl hdn
   obtain⟨a0,a1⟩:=zr2 ((HKz.out.block _ (by omega)).trans M0.out)
   obtain⟨b0,b1,b2,b3,b4⟩:=zr5 ((HKz.out.block _ (by omega)).trans M1.out)
   obtain⟨c0,c1,c2,c3,c4,c5⟩:=zr6 ((HKz.out.block _ (by omega)).trans M2.out)
   go_wp2_with fail
   refine (rsv_any z A9 Av dl s.vals dn nv c9 cv HDn.out HLn.out.1 (by omega) HO.out ((HIu.out.next HKz.out).vals)).mono ?_
   rintro e z1 ⟨rfl,hz⟩
   have HKf:=hide (HKz.out.trans (hz.mono HKz.out.size))
   clear hz
   clear a0 a1 b0 b1 b2 b3 b4 c0 c1 c2 c3 c4 c5
   have HF:=hide (HB.out.trans (HKf.out.mono HB.out.size))
   have HR:Hid (meansF 2 j1 j2 j3 j4 V es s=eqL dl s.vals):=hide (by unfold meansF;rw[if_neg (by rw[HEe.out];decide),if_neg (by decide),if_neg (fun h=>by rcases h with h | h <;> omega),if_neg (fun h=>hs2 h.1),if_pos rfl,HDl.out])
   go_wp2
   go_ret
   exact⟨ret_b (by rw[HR.out]),HF.out⟩
  by_cases hs0:s.st<0
  ·obtain⟨a0,a1⟩:=zr2 ((HKy.out.block _ (by omega)).trans M0.out)
   obtain⟨b0,b1,b2,b3,b4⟩:=zr5 ((HKy.out.block _ (by omega)).trans M1.out)
   obtain⟨c0,c1,c2,c3,c4,c5⟩:=zr6 ((HKy.out.block _ (by omega)).trans M2.out)
   have HKf:=HKy
   have HF:=hide (HB.out.trans (HKf.out.mono HB.out.size))
   have HR:Hid (meansF 3 j1 j2 j3 j4 V es s=false):=hide (by unfold meansF;rw[if_neg (by rw[HEe.out];decide),if_neg (by decide),if_pos (.inl hs0)])
   go_wp2
   go_ret
   exact⟨ret_b (by rw[HR.out]),HF.out⟩
  have hs0':0≤s.st:=by omega
  by_cases hs1:j1<s.st
  ·obtain⟨a0,a1⟩:=zr2 ((HKy.out.block _ (by omega)).trans M0.out)
   obtain⟨b0,b1,b2,b3,b4⟩:=zr5 ((HKy.out.block _ (by omega)).trans M1.out)
   obtain⟨c0,c1,c2,c3,c4,c5⟩:=zr6 ((HKy.out.block _ (by omega)).trans M2.out)
   have HKf:=HKy
   have HF:=hide (HB.out.trans (HKf.out.mono HB.out.size))
   have HR:Hid (meansF 3 j1 j2 j3 j4 V es s=false):=hide (by unfold meansF;rw[if_neg (by rw[HEe.out];decide),if_neg (by decide),if_pos (.inr hs1)])
   go_wp2
   go_ret
   exact⟨ret_b (by rw[HR.out]),HF.out⟩
  have hs1':s.st≤j1:=by omega
  by_cases hs2:s.st=j1
  ·have HS2:=hide hs2
   have hs2b:(s.st == j1)=true:=by simpa using hs2
   have hst2:s.st≤2000:=by omega
   clear hs2
   obtain⟨a0,a1⟩:=zr2 ((HKy.out.block _ (by omega)).trans M0.out)
   obtain⟨b0,b1,b2,b3,b4⟩:=zr5 ((HKy.out.block _ (by omega)).trans M1.out)
   obtain⟨c0,c1,c2,c3,c4,c5⟩:=zr6 ((HKy.out.block _ (by omega)).trans M2.out)
   have HAt:Hid (atE 0 s.st=0):=hide (by unfold atE;rw[if_neg (by decide),if_neg (by omega)])
   go_wp2_with fail
   refine (qrat_any y V A es L c HL.out (by omega) ((Eds.below HEu.out HKy.out (Nat.le_refl _)).more HKy.out.size) 3 j1 j2 j3 j4 s.st (fun _=>hgg)).mono ?_
   rw[HEe.out,HAt.out]
   rintro e z (⟨h0,_⟩ | ⟨_,Bv,Bc,Bi,dv,dc,di,rfl,hin,hz,-⟩)
   ·exact absurd rfl h0
   have HKz:=hide (HKy.out.trans (hz.mono HKy.out.size))
   have HIN:=hide hin
   have hvt:V.toNat≤512:=by omega
   have hokn:=atV_ok (k:=3) (j2:=j2) (j3:=j3) (es:=es) (V:=V.toNat) (by omega) HEB.out s.st.toNat
   obtain⟨r,hr⟩:∃q,atV 3 j2 j3 es V.toNat s.st.toNat=q:=⟨_,rfl⟩
   rw[hr] at hokn HIN ⊢
   have HRr:=hide hr
   obtain⟨M,hM⟩:∃q,V.toNat=q:=⟨_,rfl⟩
   rw[hM] at hokn hvt ⊢
   have HMe:=hide hM
   have hlr:VLen r M M M:=⟨hokn.lv,hokn.lc,hokn.li⟩
   have HLr:=hide hlr
   clear hin hz hokn hr hlr hM a0 a1 b0 b1 b2 b3 b4 c0 c1 c2 c3 c4 c5
   obtain⟨t,ht⟩:∃q,z.alloc (.cells #[.int .i64 r.st,.slice Bv M dv,.slice Bc M dc,.slice Bi M di,.int .i64 r.sm,.int .i64 r.mo] 35)=q:=⟨_,rfl⟩
   have hbt:Below z.heap.size z t:=by rw[←ht];exact (Below.refl _ _).alloc (Nat.le_refl _) _
   have htl:t.heap[z.heap.size]?=some (.cells #[.int .i64 r.st,.slice Bv M dv,.slice Bc M dc,.slice Bi M di,.int .i64 r.sm,.int .i64 r.mo] 35):=by rw[←ht];exact heap_alloc_last _ _
   have HTe:=hide ht
   have HKt:=hide (HKz.out.trans (hbt.mono HKz.out.size))
   have HINt:=hide (HIN.out.next hbt)
   clear ht
   go_upto_region 10 with fail
   rw[HTe.out]
   obtain⟨T,hT⟩:∃T,z.heap.size=T:=⟨_,rfl⟩
   rw[hT] at htl ⊢
   have d1:t.cell? ⟨T,1,none⟩=some (.slice Bv M dv):=cell_of_row _ _ 1 _ _ _ htl
   obtain⟨a0,a1⟩:=zr2 ((HKt.out.block _ (by omega)).trans M0.out)
   obtain⟨b0,b1,b2,b3,b4⟩:=zr5 ((HKt.out.block _ (by omega)).trans M1.out)
   obtain⟨c0,c1,c2,c3,c4,c5⟩:=zr6 ((HKt.out.block _ (by omega)).trans M2.out)
   clear htl hbt HTe hT
   go_wp2_with fail
   refine (rsv_any t Bv Av r.vals s.vals M nv dv cv HLr.out.1 HLn.out.1 (by omega) HINt.out.vals (HIu.out.next HKt.out).vals).mono ?_
   rintro e z2 ⟨rfl,hz⟩
   have HKf:=hide (HKt.out.trans (hz.mono HKt.out.size))
   clear hz d1 a0 a1 b0 b1 b2 b3 b4 c0 c1 c2 c3 c4 c5
   rcases hq:eqL r.vals s.vals with _ | _
   ·have HQ:=hide hq
    clear hq
    obtain⟨a0,a1⟩:=zr2 ((HKf.out.block _ (by omega)).trans M0.out)
    obtain⟨b0,b1,b2,b3,b4⟩:=zr5 ((HKf.out.block _ (by omega)).trans M1.out)
    obtain⟨c0,c1,c2,c3,c4,c5⟩:=zr6 ((HKf.out.block _ (by omega)).trans M2.out)
    go_wp2_with fail
    refine (rdistances_any z2 V A es L c j2 HL.out ((Eds.below HEu.out HKf.out (Nat.le_refl _)).more HKf.out.size) hc HEb.out).mono ?_
    rintro e z ⟨A9,c9,rfl,ho,hz⟩
    have HKz:=hide (HKf.out.trans (hz.mono HKf.out.size))
    have HO:=hide (Rd.of_own ho)
    clear hz ho
    clear a0 a1 b0 b1 b2 b3 b4 c0 c1 c2 c3 c4 c5
    obtain⟨dl,hdl⟩:∃q,distL V es j2=q:=⟨_,rfl⟩
    rw[hdl] at HO ⊢
    obtain⟨dn,hdn⟩:∃q,dl.length=q:=⟨_,rfl⟩
    have HDn:=hide hdn
    have hdn2:dn≤100000:=by rw[←hdn,←hdl];exact distL_short V es j2
    have HDl:=hide hdl
    rw[hdn] at ⊢
    clear hdl hdn
    obtain⟨a0,a1⟩:=zr2 ((HKz.out.block _ (by omega)).trans M0.out)
    obtain⟨b0,b1,b2,b3,b4⟩:=zr5 ((HKz.out.block _ (by omega)).trans M1.out)
    obtain⟨c0,c1,c2,c3,c4,c5⟩:=zr6 ((HKz.out.block _ (by omega)).trans M2.out)
    go_wp2_with fail
    refine (rsv_any z A9 Av dl s.vals dn nv c9 cv HDn.out HLn.out.1 (by omega) HO.out ((HIu.out.next HKz.out).vals)).mono ?_
    rintro e z1 ⟨rfl,hz⟩
    have HKf:=hide (HKz.out.trans (hz.mono HKz.out.size))
    clear hz
    clear a0 a1 b0 b1 b2 b3 b4 c0 c1 c2 c3 c4 c5
    have HF:=hide (HB.out.trans (HKf.out.mono HB.out.size))
    have HR:Hid (meansF 3 j1 j2 j3 j4 V es s=eqL dl s.vals):=hide (by unfold meansF;rw[if_neg (by rw[HEe.out];decide),if_neg (by decide),if_neg (fun h=>by rcases h with h | h <;> omega),if_neg (fun h=>by have h9:=HQ.out;rw[←HRr.out] at h9;rw[h.2] at h9;simp[eqL] at h9),if_neg (by decide),HDl.out])
    go_wp2
    go_ret
    exact⟨ret_b (by rw[HR.out]),HF.out⟩
   have HQ:=hide hq
   clear hq
   have HF:=hide (HB.out.trans (HKf.out.mono HB.out.size))
   have HR:Hid (meansF 3 j1 j2 j3 j4 V es s=true):=hide (by unfold meansF;rw[if_neg (by rw[HEe.out];decide),if_neg (by decide),if_neg (fun h=>by rcases h with h | h <;> omega),if_pos ⟨HS2.out,by have h9:=HQ.out;rw[←HRr.out] at h9;simpa [eqL] using h9⟩])
   go_wp2
   go_ret
   exact⟨ret_b (by rw[HR.out]),HF.out⟩
  obtain⟨a0,a1⟩:=zr2 ((HKy.out.block _ (by omega)).trans M0.out)
  obtain⟨b0,b1,b2,b3,b4⟩:=zr5 ((HKy.out.block _ (by omega)).trans M1.out)
  obtain⟨c0,c1,c2,c3,c4,c5⟩:=zr6 ((HKy.out.block _ (by omega)).trans M2.out)
  go_wp2_with fail
  refine (rdistances_any y V A es L c j2 HL.out ((Eds.below HEu.out HKy.out (Nat.le_refl _)).more HKy.out.size) hc HEb.out).mono ?_
  rintro e z ⟨A9,c9,rfl,ho,hz⟩
  have HKz:=hide (HKy.out.trans (hz.mono HKy.out.size))
  have HO:=hide (Rd.of_own ho)
  clear hz ho
  clear a0 a1 b0 b1 b2 b3 b4 c0 c1 c2 c3 c4 c5
  obtain⟨dl,hdl⟩:∃q,distL V es j2=q:=⟨_,rfl⟩
  rw[hdl] at HO ⊢
  obtain⟨dn,hdn⟩:∃q,dl.length=q:=⟨_,rfl⟩
  have HDn:=hide hdn
  have hdn2:dn≤100000:=by rw[←hdn,←hdl];exact distL_short V es j2
  have HDl:=hide hdl
  rw[hdn] at ⊢
  clear hdl hdn
  obtain⟨a0,a1⟩:=zr2 ((HKz.out.block _ (by omega)).trans M0.out)
  obtain⟨b0,b1,b2,b3,b4⟩:=zr5 ((HKz.out.block _ (by omega)).trans M1.out)
  obtain⟨c0,c1,c2,c3,c4,c5⟩:=zr6 ((HKz.out.block _ (by omega)).trans M2.out)
  go_wp2_with fail
  refine (rsv_any z A9 Av dl s.vals dn nv c9 cv HDn.out HLn.out.1 (by omega) HO.out ((HIu.out.next HKz.out).vals)).mono ?_
  rintro e z1 ⟨rfl,hz⟩
  have HKf:=hide (HKz.out.trans (hz.mono HKz.out.size))
  clear hz
  clear a0 a1 b0 b1 b2 b3 b4 c0 c1 c2 c3 c4 c5
  have HF:=hide (HB.out.trans (HKf.out.mono HB.out.size))
  have HR:Hid (meansF 3 j1 j2 j3 j4 V es s=eqL dl s.vals):=hide (by unfold meansF;rw[if_neg (by rw[HEe.out];decide),if_neg (by decide),if_neg (fun h=>by rcases h with h | h <;> omega),if_neg (fun h=>hs2 h.1),if_neg (by decide),HDl.out])
  go_wp2
  go_ret
  exact⟨ret_b (by rw[HR.out]),HF.out⟩
 obtain⟨a0,a1⟩:=zr2 ((HKy.out.block _ (by omega)).trans M0.out)
 obtain⟨b0,b1,b2,b3,b4⟩:=zr5 ((HKy.out.block _ (by omega)).trans M1.out)
 obtain⟨c0,c1,c2,c3,c4,c5⟩:=zr6 ((HKy.out.block _ (by omega)).trans M2.out)
 have HKf:=HKy
 have HF:=hide (HB.out.trans (HKf.out.mono HB.out.size))
 have HR:Hid (meansF k j1 j2 j3 j4 V es s=false):=hide (by unfold meansF;rw[if_pos (by rw[HEe.out];exact hE0)])
 go_wp2
 go_ret
 exact⟨ret_b (by rw[HR.out]),HF.out⟩
theorem meaningMeans_walk (w:World) (V:Int) (A:Option Addr) (es:List Ed) (L c:Nat) (k j1 j2 j3 j4:Int) (s:SV) (Av Ac Ai:Option Addr) (nv nc ni cv cc ci:Nat) (hL:es.length=L) (hE:Eds w w.heap.size A es) (hc:L≤9223372036854775807) (heb:∀e∈es,-9223372036854775808≤e.2.2∧e.2.2≤9223372036854775807)
  (hl:VLen s nv nc ni) (hi:VIn w s Av Ac Ai) :
  Calls Tryz.prog 22 #[.agg #[.int .i64 V,.slice A L c],.agg #[.int .u8 k,.int .i64 j1,.int .i64 j2,.int .i64 j3,.int .i64 j4],.agg #[.int .i64 s.st,.slice Av nv cv,.slice Ac nc cc,.slice Ai ni ci,.int .i64 s.sm,.int .i64 s.mo]] w fun e w'=>e = .returned (.bool true)∧Below w.heap.size w w':=by
 obtain⟨u1,hu1⟩:∃u,w.alloc (.cells #[.int .i64 V,.slice A L c] 24)=u:=⟨_,rfl⟩
 obtain⟨u2,hu2⟩:∃u,u1.alloc (.cells #[.int .u8 k,.int .i64 j1,.int .i64 j2,.int .i64 j3,.int .i64 j4] 26)=u:=⟨_,rfl⟩
 obtain⟨u,hu⟩:∃u,u2.alloc (.cells #[.int .i64 s.st,.slice Av nv cv,.slice Ac nc cc,.slice Ai ni ci,.int .i64 s.sm,.int .i64 s.mo] 35)=u:=⟨_,rfl⟩
 have z1:u1.heap.size=w.heap.size+1:=by rw[←hu1];simp
 have z2:u2.heap.size=w.heap.size+1+1:=by rw[←hu2];simp[z1]
 have z3:u.heap.size=w.heap.size+1+1+1:=by rw[←hu];simp[z2]
 have b1:Below w.heap.size w u1:=by rw[←hu1];exact (Below.refl _ _).alloc (Nat.le_refl _) _
 have b2:Below u1.heap.size u1 u2:=by rw[←hu2];exact (Below.refl _ _).alloc (Nat.le_refl _) _
 have b3:Below u2.heap.size u2 u:=by rw[←hu];exact (Below.refl _ _).alloc (Nat.le_refl _) _
 have hb:Below w.heap.size w u:=(b1.trans (b2.mono (by omega))).trans (b3.mono (by omega))
 have M0:=hide (show u.heap[w.heap.size]?=some (.cells #[.int .i64 V,.slice A L c] 24) from (b3.block _ (by omega)).trans ((b2.block _ (by omega)).trans (by rw[←hu1];exact heap_alloc_last _ _)))
 have M1:=hide (show u.heap[w.heap.size+1]?=some (.cells #[.int .u8 k,.int .i64 j1,.int .i64 j2,.int .i64 j3,.int .i64 j4] 26) from (b3.block _ (by omega)).trans (by rw[←hu2,←z1];exact heap_alloc_last _ _))
 have M2:=hide (show u.heap[w.heap.size+1+1]?=some (.cells #[.int .i64 s.st,.slice Av nv cv,.slice Ac nc cc,.slice Ai ni ci,.int .i64 s.sm,.int .i64 s.mo] 35) from by rw[←hu,←z2];exact heap_alloc_last _ _)
 have HB:=hide hb
 have HEu:Hid (Eds u u.heap.size A es):=hide ((Eds.below hE hb (Nat.le_refl _)).more hb.size)
 have HIu:=hide (hi.next hb)
 have HL:=hide hL
 have HLn:=hide hl
 have HEb:=hide heb
 have hzu:w.heap.size+1+1<u.heap.size:=by omega
 have HU:=hide (And.intro hu1 (And.intro hu2 hu))
 have HK0:=hide (Below.refl u.heap.size u)
 clear hu1 hu2 hu z1 z2 z3 b1 b2 b3 hb hE hi hL hl heb
 obtain⟨a0,a1⟩:=zr2 ((HK0.out.block _ (by omega)).trans M0.out)
 obtain⟨b0,b1,b2,b3,b4⟩:=zr5 ((HK0.out.block _ (by omega)).trans M1.out)
 obtain⟨c0,c1,c2,c3,c4,c5⟩:=zr6 ((HK0.out.block _ (by omega)).trans M2.out)
 go_enter Tryz.func22,Tryz.ntmps22
 go_wp2_with fail
 rw[HU.out.1,HU.out.2.1,HU.out.2.2]
 go_wp2_with fail
 refine (lt13_any u V A es L c HL.out HEu.out (by omega)).mono ?_
 rintro e y ⟨rfl,hy⟩
 have HKy:=hide hy
 clear hy
 clear a0 a1 b0 b1 b2 b3 b4 c0 c1 c2 c3 c4 c5
 obtain⟨lb,hlb⟩:∃q,lightB V L es=q:=⟨_,rfl⟩
 rw[hlb]
 have HLb:=hide hlb
 clear hlb
 rcases lb with _ | _
 ·obtain⟨a0,a1⟩:=zr2 ((HKy.out.block _ (by omega)).trans M0.out)
  obtain⟨b0,b1,b2,b3,b4⟩:=zr5 ((HKy.out.block _ (by omega)).trans M1.out)
  obtain⟨c0,c1,c2,c3,c4,c5⟩:=zr6 ((HKy.out.block _ (by omega)).trans M2.out)
  go_wp2_with fail
  refine (works_any y).mono ?_
  rintro e zf ⟨rfl,hz⟩
  have HF:=hide (HB.out.trans ((HKy.out.trans (hz.mono HKy.out.size)).mono HB.out.size))
  clear hz a0 a1 b0 b1 b2 b3 b4 c0 c1 c2 c3 c4 c5
  go_wp2
  go_ret
  exact⟨rfl,HF.out⟩
 have hL100:L≤100:=by have h:=HLb.out;unfold lightB at h;simp at h;omega
 have HG:Hid (acheckF k j1 j2 j3 j4 V es=0→L≤100∧V≤16):=hide (fun h=>⟨hL100,by have h2:=HLb.out;unfold lightB at h2;rw[acheck_chk h] at h2;simp at h2;omega⟩)
 obtain⟨a0,a1⟩:=zr2 ((HKy.out.block _ (by omega)).trans M0.out)
 obtain⟨b0,b1,b2,b3,b4⟩:=zr5 ((HKy.out.block _ (by omega)).trans M1.out)
 obtain⟨c0,c1,c2,c3,c4,c5⟩:=zr6 ((HKy.out.block _ (by omega)).trans M2.out)
 by_cases hc0:40<j1
 ·go_wp2_with fail
  refine (works_any y).mono ?_
  rintro e zf ⟨rfl,hz⟩
  have HF:=hide (HB.out.trans ((HKy.out.trans (hz.mono HKy.out.size)).mono HB.out.size))
  clear hz a0 a1 b0 b1 b2 b3 b4 c0 c1 c2 c3 c4 c5
  go_wp2
  go_ret
  exact⟨rfl,HF.out⟩
 by_cases hc1:(30:Int)<(nv:Int)
 ·go_wp2_with fail
  refine (works_any y).mono ?_
  rintro e zf ⟨rfl,hz⟩
  have HF:=hide (HB.out.trans ((HKy.out.trans (hz.mono HKy.out.size)).mono HB.out.size))
  clear hz a0 a1 b0 b1 b2 b3 b4 c0 c1 c2 c3 c4 c5
  go_wp2
  go_ret
  exact⟨rfl,HF.out⟩
 by_cases hc2:(30:Int)<(nc:Int)
 ·go_wp2_with fail
  refine (works_any y).mono ?_
  rintro e zf ⟨rfl,hz⟩
  have HF:=hide (HB.out.trans ((HKy.out.trans (hz.mono HKy.out.size)).mono HB.out.size))
  clear hz a0 a1 b0 b1 b2 b3 b4 c0 c1 c2 c3 c4 c5
  go_wp2
  go_ret
  exact⟨rfl,HF.out⟩
 by_cases hc3:(30:Int)<(ni:Int)
 ·go_wp2_with fail
  refine (works_any y).mono ?_
  rintro e zf ⟨rfl,hz⟩
  have HF:=hide (HB.out.trans ((HKy.out.trans (hz.mono HKy.out.size)).mono HB.out.size))
  clear hz a0 a1 b0 b1 b2 b3 b4 c0 c1 c2 c3 c4 c5
  go_wp2
  go_ret
  exact⟨rfl,HF.out⟩
 have HQ0:Hid (Below u.heap.size u y.drew):=hide (HKy.out.drew)
 have huy:u.heap.size≤y.heap.size:=HKy.out.size
 have hy0:w.heap.size<y.heap.size:=by omega
 have hy1:w.heap.size+1<y.heap.size:=by omega
 have hy2:w.heap.size+1+1<y.heap.size:=by omega
 go_upto_region 3 with fail
 obtain⟨mv,hmv⟩:∃q,meansF k j1 j2 j3 j4 V es s=q:=⟨_,rfl⟩
 have HMv:=hide hmv
 clear hmv
 refine wp_region_held_drew (S:=Kept y) (by kernel_rfl) (Kept.drew y) (fun hS0=>?_)
 refine tka 0 34 ?_
 refine tka 1 35 ?_
 refine tka 2 36 ?_
 refine tka 4 38 ?_
 refine tka 5 39 ?_
 refine tka 6 40 ?_
 refine ck 3 37 fun K hK=>?_
 go_simp
 refine (means_any y.drew V A es L c k j1 j2 j3 j4 s Av Ac Ai nv nc ni cv cc ci HL.out ((Eds.below HEu.out HQ0.out (Nat.le_refl _)).more HQ0.out.size) (by omega) HEb.out HG.out HLn.out (HIu.out.next HQ0.out)).mono ?_
 rintro e z1 ⟨rfl,hz⟩
 rw[HMv.out]
 have hS1:Kept y z1:=hS0.below (by first | (simp;done) | (simp;omega) | omega) hz
 have hs1:y.heap.size≤z1.heap.size:=by have:=hz.size;first | omega | (simp at this;omega)
 have HQ1:=hide (HQ0.out.trans (hz.mono HQ0.out.size))
 clear hz
 go_wp2_with fail
 refine hK.out _ _ hS1 (fun hSn=>?_)
 clear hK K
 try simp only[zqd,zqe,zqf]
 refine ck 7 41 fun K hK=>?_
 go_simp
 refine (rmeans_any z1 V A es L c k j1 j2 j3 j4 s Av Ac Ai nv nc ni cv cc ci HL.out ((Eds.below HEu.out HQ1.out (Nat.le_refl _)).more HQ1.out.size) (by omega) HEb.out HG.out HLn.out (HIu.out.next HQ1.out)).mono ?_
 rintro e z2 ⟨rfl,hz⟩
 rw[HMv.out]
 have hS2:Kept y z2:=hS1.below (by first | (simp;done) | (simp;omega) | omega) hz
 have hs2:y.heap.size≤z2.heap.size:=by have:=hz.size;first | omega | (simp at this;omega)
 have HQ2:=hide (HQ1.out.trans (hz.mono HQ1.out.size))
 clear hz
 go_wp2_with fail
 refine hK.out _ _ hS2 (fun hSn=>?_)
 clear hK K
 try simp only[zqd,zqe,zqf]
 refine tk 8 42 ?_ ?_ ?_;rotate_left;(focus (intro w hSw;go_simp;(try simp);(try with_reducible rfl);done));(try simp only[zqd,zqe,zqf])
 refine tk 9 43 ?_ ?_ ?_;rotate_left;(focus (intro w hSw;go_simp;(try simp);(try with_reducible rfl);done));(try simp only[zqd,zqe,zqf])
 refine ck 10 44 fun K hK=>?_
 go_simp
 refine (works_any z2).mono ?_
 rintro e z3 ⟨rfl,hz⟩
 have hS3:Kept y z3:=hS2.below (by omega) hz
 have HQ3:=hide (HQ2.out.trans (hz.mono HQ2.out.size))
 clear hz
 go_wp2_with fail
 refine hK.out _ _ hS3 (fun hSn=>?_)
 clear hK K
 try simp only[zqd,zqe,zqf]
 refine tka 11 45 ?_
 refine tka 12 6 ?_
 refine wpAnyH_done (by kernel_rfl) ?_ _
 clear hS0 hS1 hS2 hS3 hSn a0 a1 b0 b1 b2 b3 b4 c0 c1 c2 c3 c4 c5
 have HF:=hide (HB.out.trans (HQ3.out.mono HB.out.size))
 go_wp2
 go_ret
 exact⟨ret_b (by simp),HF.out⟩
structure SmG (w:World) (V:Int) (A:Option Addr) (es:List Ed) (L c:Nat):Prop where
 len:es.length=L
 eds:Eds w w.heap.size A es
 cap:L≤c
 top:c≤9223372036854775807
 edb:∀e∈es,edB e
 lo:0≤V
 hi:V≤6
 few:L≤5
theorem SmG.next {w w':World} {V:Int} {A:Option Addr} {es:List Ed} {L c:Nat} (h:SmG w V A es L c) (hb:Below w.heap.size w w'):SmG w' V A es L c:=
 ⟨h.len,h.eds.next hb,h.cap,h.top,h.edb,h.lo,h.hi,h.few⟩
theorem SmG.lit {w:World} {V:Int} {A:Option Addr} {es:List Ed} {L:Nat} (hr:Rd w w.heap.size A (edFlat es)) (hl:es.length=L) (hw:wt es) (he:∀e∈es,edB e) (h0:0≤V) (h1:V≤6) (h5:L≤5):SmG w V A es L L:=
 ⟨hl,Eds.of_rd hr hw,Nat.le_refl _,by omega,he,h0,h1,h5⟩
theorem SmG.none_ {w:World} {V:Int} (h0:0≤V) (h1:V≤6):SmG w V none [] 0 0:=
 ⟨rfl,fun h=>absurd rfl h,Nat.le_refl _,by decide,(fun e he=>nomatch he),h0,h1,by decide⟩
theorem SmG.walk {w:World} {V:Int} {A:Option Addr} {es:List Ed} {L c:Nat} (h:SmG w V A es L c) :
  Calls Tryz.prog 4 #[.agg #[.int .i64 V,.slice A L c]] w fun e w'=>e = .returned (.bool true)∧Below w.heap.size w w':=by
 obtain⟨rfl,h2,h3,h4,h5,h6,h7,h8⟩:=h
 exact meaningLabels_walk w V A es c (by omega) (by omega) h2 h3 h4 h5
theorem SmG.dist {w:World} {V:Int} {A:Option Addr} {es:List Ed} {L c:Nat} (h:SmG w V A es L c) (s:Int) (hs1:-9223372036854775808≤s) (hs2:s≤9223372036854775807) :
  Calls Tryz.prog 5 #[.agg #[.int .i64 V,.slice A L c],.int .i64 s] w fun e w'=>e = .returned (.bool true)∧Below w.heap.size w w':=by
 obtain⟨rfl,h2,h3,h4,h5,h6,h7,h8⟩:=h
 exact meaningDistances_walk w V A es c (by omega) (by omega) h2 h3 h4 h5 s hs1 hs2
theorem SmG.run {w:World} {V:Int} {A:Option Addr} {es:List Ed} {L c:Nat} (h:SmG w V A es L c) (k j1 j2 j3 j4:Int) (hkb:0≤k∧k≤255) (hj1b:i64B j1) (hj2b:i64B j2) (hj3b:i64B j3) (hj4b:i64B j4) (pt:Int) (hpt1:-9223372036854775808≤pt) (hpt2:pt≤9223372036854775807) (value:Int) (hva1:-9223372036854775808≤value) (hva2:value≤9223372036854775807) :
  Calls Tryz.prog 3 #[.agg #[.int .i64 V,.slice A L c],.agg #[.int .u8 k,.int .i64 j1,.int .i64 j2,.int .i64 j3,.int .i64 j4],.int .i64 pt,.int .i64 value] w fun e w'=>e = .returned (.bool true)∧Below w.heap.size w w':=by
 obtain⟨rfl,h2,h3,h4,h5,h6,h7,h8⟩:=h
 exact meaningRun_walk w V A es c (by omega) (by omega) h2 h3 h4 h5 k j1 j2 j3 j4 hkb hj1b hj2b hj3b hj4b pt hpt1 hpt2 value hva1 hva2
theorem SmG.means {w:World} {V:Int} {A:Option Addr} {es:List Ed} {L c:Nat} (h:SmG w V A es L c) (k j1 j2 j3 j4:Int) (s:SV) (Av Ac Ai:Option Addr) (nv nc ni cv cc ci:Nat) (hl:VLen s nv nc ni) (hi:VIn w s Av Ac Ai) :
  Calls Tryz.prog 22 #[.agg #[.int .i64 V,.slice A L c],.agg #[.int .u8 k,.int .i64 j1,.int .i64 j2,.int .i64 j3,.int .i64 j4],.agg #[.int .i64 s.st,.slice Av nv cv,.slice Ac nc cc,.slice Ai ni ci,.int .i64 s.sm,.int .i64 s.mo]] w fun e w'=>e = .returned (.bool true)∧Below w.heap.size w w':=by
 obtain⟨h1,h2,h3,h4,h5,h6,h7,h8⟩:=h
 exact meaningMeans_walk w V A es L c k j1 j2 j3 j4 s Av Ac Ai nv nc ni cv cc ci h1 h2 (by omega) (Eds.wt h2) hl hi
def RunAny (w:World) (e:Ending) (w':World):Prop:=
 ∃(s:SV) (Av Ac Ai:Option Addr) (n cv cc ci:Nat) (E:Int),e = .returned (.tuple #[.agg #[.int .i64 s.st,.slice Av n cv,.slice Ac n cc,.slice Ai n ci,.int .i64 s.sm,.int .i64 s.mo],.int .i64 E])∧VLen s n n n∧VIn w' s Av Ac Ai∧Below w.heap.size w w'
theorem SmG.seqrun {w:World} {V:Int} {A:Option Addr} {es:List Ed} {L c:Nat} (h:SmG w V A es L c) (k j1 j2 j3 j4:Int) :
  Calls Tryz.prog 10 #[.agg #[.int .i64 V,.slice A L c],.agg #[.int .u8 k,.int .i64 j1,.int .i64 j2,.int .i64 j3,.int .i64 j4]] w (RunAny w):=by
 obtain⟨h1,h2,h3,h4,h5,h6,h7,h8⟩:=h
 refine (qrun_any w V A es L c h1 (by omega) h2 k j1 j2 j3 j4 (fun _=>⟨by omega,by omega⟩)).mono ?_
 rintro e w' (⟨_,rfl,hb⟩ | ⟨h0,Av,Ac,Ai,cv,cc,ci,rfl,hin,hb,_,_,_⟩)
 ·exact⟨⟨0,[],[],[],0,0⟩,none,none,none,0,0,0,0,_,rfl,⟨rfl,rfl,rfl⟩,⟨fun h=>absurd rfl h,fun h=>absurd rfl h,fun h=>absurd rfl h⟩,hb⟩
 obtain⟨⟨hV1,hV5,hEB⟩,_⟩:=acheck_ok h0
 have hokn:=atV_ok (k:=k) (j2:=j2) (j3:=j3) (es:=es) (V:=V.toNat) (by omega) hEB (runN k j1 j2 j3 j4 es V.toNat)
 exact⟨_,Av,Ac,Ai,_,cv,cc,ci,0,rfl,⟨hokn.lv,hokn.lc,hokn.li⟩,hin,hb⟩
def GR (w:World) (B:Nat):Prop:=B<w.heap.size∧∀i,i<7→∃(V:Int) (A:Option Addr) (es:List Ed) (L c:Nat),w.cell? ⟨B,i*2,none⟩=some (.int .i64 V)∧w.cell? ⟨B,i*2+1,none⟩=some (.slice A L c)∧SmG w V A es L c
theorem GR.next {w w':World} {B:Nat} (h:GR w B) (hb:Below w.heap.size w w'):GR w' B:=
 ⟨Nat.lt_of_lt_of_le h.1 hb.size,fun i hi=>by
  obtain⟨V,A,es,L,c,h1,h2,h3⟩:=h.2 i hi
  exact⟨V,A,es,L,c,(hb.cell h.1).trans h1,(hb.cell h.1).trans h2,h3.next hb⟩⟩
def JR (w:World) (B:Nat):Prop:=B<w.heap.size∧∀i,i<5→∃(k j1 j2 j3 j4:Int),(0≤k∧k≤255)∧i64B j1∧i64B j2∧i64B j3∧i64B j4∧w.cell? ⟨B,i*5,none⟩=some (.int .u8 k)∧w.cell? ⟨B,i*5+1,none⟩=some (.int .i64 j1)∧w.cell? ⟨B,i*5+2,none⟩=some (.int .i64 j2)∧w.cell? ⟨B,i*5+3,none⟩=some (.int .i64 j3)∧w.cell? ⟨B,i*5+4,none⟩=some (.int .i64 j4)
theorem JR.next {w w':World} {B:Nat} (h:JR w B) (hb:Below w.heap.size w w'):JR w' B:=
 ⟨Nat.lt_of_lt_of_le h.1 hb.size,fun i hi=>by
  obtain⟨k,j1,j2,j3,j4,a1,a2,a3,a4,a5,h1,h2,h3,h4,h5⟩:=h.2 i hi
  exact⟨k,j1,j2,j3,j4,a1,a2,a3,a4,a5,(hb.cell h.1).trans h1,(hb.cell h.1).trans h2,(hb.cell h.1).trans h3,(hb.cell h.1).trans h4,(hb.cell h.1).trans h5⟩⟩
theorem gr_of {y u:World} {A1 A2 A3:Option Addr} {c1 c2 c3:Nat} (h1:SmG y 6 A1 millE 5 c1) (h2:SmG y 5 A2 (ringE 5) 5 c2) (h3:SmG y 1 A3 (ringE 1) 1 c3) (hu:((y.alloc (.cells #[.int .i64 2,.int .i64 0,.int .i64 0,.int .i64 2,.int .i64 1,.int .i64 2147483647] 46)).alloc (.cells #[.int .i64 0,.int .i64 2,.int .i64 0] 46)).alloc (.cells #[.int .i64 6,.slice A1 5 c1,.int .i64 5,.slice A2 5 c2,.int .i64 1,.slice A3 1 c3,.int .i64 4,.slice none 0 0,.int .i64 3,.slice (some ⟨y.heap.size,0,none⟩) 2 2,.int .i64 0,.slice none 0 0,.int .i64 2,.slice (some ⟨y.heap.size+1,0,none⟩) 1 1] 24)=u):GR u (y.heap.size+1+1)∧Below y.heap.size y u:=by
 have b1:Below y.heap.size y (y.alloc (.cells #[.int .i64 2,.int .i64 0,.int .i64 0,.int .i64 2,.int .i64 1,.int .i64 2147483647] 46)):=(Below.refl _ _).alloc (Nat.le_refl _) _
 have b2:Below y.heap.size y ((y.alloc (.cells #[.int .i64 2,.int .i64 0,.int .i64 0,.int .i64 2,.int .i64 1,.int .i64 2147483647] 46)).alloc (.cells #[.int .i64 0,.int .i64 2,.int .i64 0] 46)):=b1.alloc (by simp) _
 have b3:Below y.heap.size y u:=by rw[←hu];exact b2.alloc (by simp;omega) _
 have hz:u.heap.size=y.heap.size+1+1+1:=by rw[←hu];simp
 have k1:u.heap[y.heap.size]?=some (.cells #[.int .i64 2,.int .i64 0,.int .i64 0,.int .i64 2,.int .i64 1,.int .i64 2147483647] 46):=by
  rw[←hu];exact heap_alloc_keep (heap_alloc_keep (heap_alloc_last _ _))
 have k2:u.heap[y.heap.size+1]?=some (.cells #[.int .i64 0,.int .i64 2,.int .i64 0] 46):=by
  have h9:=heap_alloc_last (y.alloc (.cells #[.int .i64 2,.int .i64 0,.int .i64 0,.int .i64 2,.int .i64 1,.int .i64 2147483647] 46)) (.cells #[.int .i64 0,.int .i64 2,.int .i64 0] 46)
  rw[World.size_alloc] at h9
  rw[←hu];exact heap_alloc_keep h9
 have k3:u.heap[y.heap.size+1+1]?=some (.cells #[.int .i64 6,.slice A1 5 c1,.int .i64 5,.slice A2 5 c2,.int .i64 1,.slice A3 1 c3,.int .i64 4,.slice none 0 0,.int .i64 3,.slice (some ⟨y.heap.size,0,none⟩) 2 2,.int .i64 0,.slice none 0 0,.int .i64 2,.slice (some ⟨y.heap.size+1,0,none⟩) 1 1] 24):=by
  have h9:=heap_alloc_last ((y.alloc (.cells #[.int .i64 2,.int .i64 0,.int .i64 0,.int .i64 2,.int .i64 1,.int .i64 2147483647] 46)).alloc (.cells #[.int .i64 0,.int .i64 2,.int .i64 0] 46)) (.cells #[.int .i64 6,.slice A1 5 c1,.int .i64 5,.slice A2 5 c2,.int .i64 1,.slice A3 1 c3,.int .i64 4,.slice none 0 0,.int .i64 3,.slice (some ⟨y.heap.size,0,none⟩) 2 2,.int .i64 0,.slice none 0 0,.int .i64 2,.slice (some ⟨y.heap.size+1,0,none⟩) 1 1] 24)
  rw[World.size_alloc,World.size_alloc] at h9
  rw[←hu];exact h9
 have r1:Rd u u.heap.size (some ⟨y.heap.size,0,none⟩) (edFlat [(2,0,0),(2,1,2147483647)]):=fun _=>⟨y.heap.size,0,rfl,by omega,fun j v hv=>by
  rcases j with _ | _ | _ | _ | _ | _ | j <;> simp[edFlat,edCells] at hv <;> subst hv <;> exact cell_of_row _ _ _ _ _ _ k1⟩
 have r2:Rd u u.heap.size (some ⟨y.heap.size+1,0,none⟩) (edFlat [(0,2,0)]):=fun _=>⟨y.heap.size+1,0,rfl,by omega,fun j v hv=>by
  rcases j with _ | _ | _ | j <;> simp[edFlat,edCells] at hv <;> subst hv <;> exact cell_of_row _ _ _ _ _ _ k2⟩
 refine⟨⟨by omega,fun i hi=>?_⟩,b3⟩
 rcases i with _ | _ | _ | _ | _ | _ | _ | i
 ·exact⟨6,A1,millE,5,c1,cell_of_row _ _ 0 _ _ _ k3,cell_of_row _ _ 1 _ _ _ k3,h1.next b3⟩
 ·exact⟨5,A2,ringE 5,5,c2,cell_of_row _ _ 2 _ _ _ k3,cell_of_row _ _ 3 _ _ _ k3,h2.next b3⟩
 ·exact⟨1,A3,ringE 1,1,c3,cell_of_row _ _ 4 _ _ _ k3,cell_of_row _ _ 5 _ _ _ k3,h3.next b3⟩
 ·exact⟨4,none,[],0,0,cell_of_row _ _ 6 _ _ _ k3,cell_of_row _ _ 7 _ _ _ k3,SmG.none_ (by decide) (by decide)⟩
 ·exact⟨3,_,[(2,0,0),(2,1,2147483647)],2,2,cell_of_row _ _ 8 _ _ _ k3,cell_of_row _ _ 9 _ _ _ k3,SmG.lit r1 rfl (wt_of (by decide)) (fun e he=>by simp only[List.mem_cons,List.not_mem_nil,or_false] at he;rcases he with rfl | rfl <;> simp[edB]) (by decide) (by decide) (by decide)⟩
 ·exact⟨0,none,[],0,0,cell_of_row _ _ 10 _ _ _ k3,cell_of_row _ _ 11 _ _ _ k3,SmG.none_ (by decide) (by decide)⟩
 ·exact⟨2,_,[(0,2,0)],1,1,cell_of_row _ _ 12 _ _ _ k3,cell_of_row _ _ 13 _ _ _ k3,SmG.lit r2 rfl (wt_of (by decide)) (fun e he=>by simp only[List.mem_cons,List.not_mem_nil,or_false] at he;rcases he with rfl <;> simp[edB]) (by decide) (by decide) (by decide)⟩
 omega
theorem ring_edB (n:Nat) (hn:n≤8192):∀e∈ringE n,edB e:=fun e he=>by
 unfold ringE at he
 obtain⟨i,hi,rfl⟩:=List.mem_map.1 he
 have:=List.mem_range.1 hi
 have h1:((i:Int)+1) % (n:Int)<(n:Int):=Int.emod_lt_of_pos _ (by omega)
 have h2:0≤((i:Int)+1) % (n:Int):=Int.emod_nonneg _ (by omega)
 refine⟨?_,?_,?_,?_⟩ <;> dsimp only <;> omega
theorem jr_of {x t:World} {s:Int} (h0:-1≤s) (h1:s≤6) (ht:x.alloc (.cells #[.int .u8 2,.int .i64 (s+1),.int .i64 0,.int .i64 0,.int .i64 0,.int .u8 3,.int .i64 9,.int .i64 s,.int .i64 0,.int .i64 0,.int .u8 3,.int .i64 1,.int .i64 s,.int .i64 0,.int .i64 0,.int .u8 1,.int .i64 (s+2),.int .i64 0,.int .i64 3650722201,.int .i64 0,.int .u8 0,.int .i64 0,.int .i64 0,.int .i64 0,.int .i64 0] 26)=t):JR t x.heap.size∧Below x.heap.size x t:=by
 have k3:t.heap[x.heap.size]?=some (.cells #[.int .u8 2,.int .i64 (s+1),.int .i64 0,.int .i64 0,.int .i64 0,.int .u8 3,.int .i64 9,.int .i64 s,.int .i64 0,.int .i64 0,.int .u8 3,.int .i64 1,.int .i64 s,.int .i64 0,.int .i64 0,.int .u8 1,.int .i64 (s+2),.int .i64 0,.int .i64 3650722201,.int .i64 0,.int .u8 0,.int .i64 0,.int .i64 0,.int .i64 0,.int .i64 0] 26):=by rw[←ht];exact heap_alloc_last _ _
 refine⟨⟨lt_of_block k3,fun i hi=>?_⟩,by rw[←ht];exact (Below.refl _ _).alloc (Nat.le_refl _) _⟩
 rcases i with _ | _ | _ | _ | _ | i
 ·exact⟨2,s+1,0,0,0,by first | decide | (unfold i64B;decide),⟨by omega,by omega⟩,by first | decide | (unfold i64B;decide),by first | decide | (unfold i64B;decide),by first | decide | (unfold i64B;decide),cell_of_row _ _ 0 _ _ _ k3,cell_of_row _ _ 1 _ _ _ k3,cell_of_row _ _ 2 _ _ _ k3,cell_of_row _ _ 3 _ _ _ k3,cell_of_row _ _ 4 _ _ _ k3⟩
 ·exact⟨3,9,s,0,0,by first | decide | (unfold i64B;decide),by first | decide | (unfold i64B;decide),⟨by omega,by omega⟩,by first | decide | (unfold i64B;decide),by first | decide | (unfold i64B;decide),cell_of_row _ _ 5 _ _ _ k3,cell_of_row _ _ 6 _ _ _ k3,cell_of_row _ _ 7 _ _ _ k3,cell_of_row _ _ 8 _ _ _ k3,cell_of_row _ _ 9 _ _ _ k3⟩
 ·exact⟨3,1,s,0,0,by first | decide | (unfold i64B;decide),by first | decide | (unfold i64B;decide),⟨by omega,by omega⟩,by first | decide | (unfold i64B;decide),by first | decide | (unfold i64B;decide),cell_of_row _ _ 10 _ _ _ k3,cell_of_row _ _ 11 _ _ _ k3,cell_of_row _ _ 12 _ _ _ k3,cell_of_row _ _ 13 _ _ _ k3,cell_of_row _ _ 14 _ _ _ k3⟩
 ·exact⟨1,s+2,0,3650722201,0,by first | decide | (unfold i64B;decide),⟨by omega,by omega⟩,by first | decide | (unfold i64B;decide),by first | decide | (unfold i64B;decide),by first | decide | (unfold i64B;decide),cell_of_row _ _ 15 _ _ _ k3,cell_of_row _ _ 16 _ _ _ k3,cell_of_row _ _ 17 _ _ _ k3,cell_of_row _ _ 18 _ _ _ k3,cell_of_row _ _ 19 _ _ _ k3⟩
 ·exact⟨0,0,0,0,0,by first | decide | (unfold i64B;decide),by first | decide | (unfold i64B;decide),by first | decide | (unfold i64B;decide),by first | decide | (unfold i64B;decide),by first | decide | (unfold i64B;decide),cell_of_row _ _ 20 _ _ _ k3,cell_of_row _ _ 21 _ _ _ k3,cell_of_row _ _ 22 _ _ _ k3,cell_of_row _ _ 23 _ _ _ k3,cell_of_row _ _ 24 _ _ _ k3⟩
 omega
theorem meaningKnown_walk (w:World):Calls Tryz.prog 6 #[] w fun e w'=>e = .returned (.bool true)∧Below w.heap.size w w':=by
 go_enter Tryz.func6,Tryz.ntmps6
 go_wp2_with fail
 refine (mill_any w).mono ?_
 rintro e y1 ⟨A1,c1,rfl,he1,hl1,hc1,hb1⟩
 rw[show millE.length=5 from rfl] at hl1 ⊢
 have HG1:Hid (SmG y1 6 A1 millE 5 c1):=hide ⟨rfl,he1,hl1,hc1,by intro e he;simp only[millE,List.mem_cons,List.not_mem_nil,or_false] at he;rcases he with rfl | rfl | rfl | rfl | rfl <;> simp[edB],by decide,by decide,by decide⟩
 have HB1:=hide hb1
 clear he1 hl1 hc1 hb1
 go_wp2_with fail
 refine (ring_any y1 5 (by decide) (by decide)).mono ?_
 rintro e y2 ⟨A2,c2,rfl,he2,hl2,hc2,hb2⟩
 rw[ring_len] at hl2 ⊢
 rw[show ((5:Nat):Int)=5 from rfl]
 have HG2:Hid (SmG y2 5 A2 (ringE 5) 5 c2):=hide ⟨rfl,he2,hl2,hc2,fun e he=>ring_edB 5 (by decide) e he,by decide,by decide,by decide⟩
 have HG1b:=hide (HG1.out.next hb2)
 have HB2:=hide (HB1.out.trans (hb2.mono HB1.out.size))
 clear he2 hl2 hc2 hb2
 go_wp2_with fail
 refine (ring_any y2 1 (by decide) (by decide)).mono ?_
 rintro e y3 ⟨A3,c3,rfl,he3,hl3,hc3,hb3⟩
 rw[ring_len] at hl3 ⊢
 rw[show ((1:Nat):Int)=1 from rfl]
 have HG3:Hid (SmG y3 1 A3 (ringE 1) 1 c3):=hide ⟨rfl,he3,hl3,hc3,fun e he=>ring_edB 1 (by decide) e he,by decide,by decide,by decide⟩
 have HG1c:=hide (HG1b.out.next hb3)
 have HG2c:=hide (HG2.out.next hb3)
 have HB3:=hide (HB2.out.trans (hb3.mono HB2.out.size))
 clear he3 hl3 hc3 hb3 HG1 HG1b HG2 HB1 HB2
 go_wp2
 obtain⟨u,hu⟩:∃u,((y3.alloc (.cells #[.int .i64 2,.int .i64 0,.int .i64 0,.int .i64 2,.int .i64 1,.int .i64 2147483647] 46)).alloc (.cells #[.int .i64 0,.int .i64 2,.int .i64 0] 46)).alloc (.cells #[.int .i64 6,.slice A1 5 c1,.int .i64 5,.slice A2 5 c2,.int .i64 1,.slice A3 1 c3,.int .i64 4,.slice none 0 0,.int .i64 3,.slice (some ⟨y3.heap.size,0,none⟩) 2 2,.int .i64 0,.slice none 0 0,.int .i64 2,.slice (some ⟨y3.heap.size+1,0,none⟩) 1 1] 24)=u:=⟨_,rfl⟩
 have hgr:=gr_of HG1c.out HG2c.out HG3.out hu
 have HGR:=hide hgr.1
 have HB:=hide (HB3.out.trans (hgr.2.mono HB3.out.size))
 rw[hu]
 obtain⟨B,hB⟩:∃B,y3.heap.size+1+1=B:=⟨_,rfl⟩
 rw[hB] at HGR ⊢
 clear hgr hu hB HG1c HG2c HG3 HB3
 go_loopw [23] (fun v23 wr=>∃i:Nat,i≤7∧v23 = .int .i64 (i:Int)∧Hid (Below u.heap.size u wr)) (fun v23 _=>7-(intOf v23).toNat)
 case atStart=>exact⟨0,by omega,rfl,hide (Below.refl _ _)⟩
 case round=>
  obtain⟨i,hi,rfl,HBr⟩:=hrel
  obtain⟨wa,rfl⟩:∃z:World,z=wr:=⟨_,rfl⟩
  by_cases hlt:i<7
  ·have hI1:(i:Int)<7:=by omega
   obtain⟨V,A,es,L,c,g0,g1,hs⟩:=(HGR.out.next HBr.out).2 i hlt
   have HS:=hide hs
   have hV0:0≤V:=hs.lo
   have hV6:V≤6:=hs.hi
   clear hs
   go_wp2_with fail
   obtain⟨x,hx⟩:∃x,wa.alloc (.cells #[.int .i64 V,.slice A L c] 24)=x:=⟨_,rfl⟩
   have hbx:Below wa.heap.size wa x:=by rw[←hx];exact (Below.refl _ _).alloc (Nat.le_refl _) _
   have hgx:x.heap[wa.heap.size]?=some (.cells #[.int .i64 V,.slice A L c] 24):=by rw[←hx];exact heap_alloc_last _ _
   rw[hx]
   obtain⟨G,hG⟩:∃G,wa.heap.size=G:=⟨_,rfl⟩
   rw[hG] at hgx ⊢
   have hGx:=lt_of_block hgx
   have HGx:=hide hgx
   have HSx:=hide (HS.out.next hbx)
   have HBx:=hide (HBr.out.trans (hbx.mono HBr.out.size))
   clear hx hbx hgx hG g0 g1 HS HBr
   refine HSx.out.walk.mono ?_
   rintro e x1 ⟨rfl,hz⟩
   have HK1:=hide hz
   have HS1:=hide (HSx.out.next hz)
   have HB1:=hide (HBx.out.trans (hz.mono HBx.out.size))
   clear hz HBx
   go_wp2
   go_loopw [3] (fun v3 wr=>∃s:Int,-1≤s∧s≤V+1∧v3 = .int .i64 s∧Hid (Below x1.heap.size x1 wr)) (fun v3 _=>(V+1-intOf v3).toNat)
   case atStart=>exact⟨-1,by omega,by omega,rfl,hide (Below.refl _ _)⟩
   case round=>
    obtain⟨s,hs0,hs1,rfl,HBs⟩:=hrel
    obtain⟨wb,rfl⟩:∃z:World,z=wr:=⟨_,rfl⟩
    have HKb:=hide (HK1.out.trans (HBs.out.mono HK1.out.size))
    obtain⟨g0,g1⟩:=zr2 ((HKb.out.block _ hGx).trans HGx.out)
    by_cases hls:s≤V
    ·go_wp2_with fail
     refine ((HS1.out.next HBs.out).dist s (by omega) (by omega)).mono ?_
     rintro e x2 ⟨rfl,hz⟩
     have HK2:=hide (HKb.out.trans (hz.mono HKb.out.size))
     have HS2:=hide ((HS1.out.next HBs.out).next hz)
     have HB2:=hide (HBs.out.trans (hz.mono HBs.out.size))
     clear hz g0 g1 HKb HBs
     go_wp2
     obtain⟨t,ht⟩:∃t,x2.alloc (.cells #[.int .u8 2,.int .i64 (s+1),.int .i64 0,.int .i64 0,.int .i64 0,.int .u8 3,.int .i64 9,.int .i64 s,.int .i64 0,.int .i64 0,.int .u8 3,.int .i64 1,.int .i64 s,.int .i64 0,.int .i64 0,.int .u8 1,.int .i64 (s+2),.int .i64 0,.int .i64 3650722201,.int .i64 0,.int .u8 0,.int .i64 0,.int .i64 0,.int .i64 0,.int .i64 0] 26)=t:=⟨_,rfl⟩
     have hjr:=jr_of (s:=s) (by omega) (by omega) ht
     have HJR:=hide hjr.1
     have HKt:=hide (HK2.out.trans (hjr.2.mono HK2.out.size))
     have HSt:=hide (HS2.out.next hjr.2)
     have HBt:=hide (HB2.out.trans (hjr.2.mono HB2.out.size))
     rw[ht]
     obtain⟨Q,hQ⟩:∃Q,x2.heap.size=Q:=⟨_,rfl⟩
     rw[hQ] at HJR ⊢
     clear hjr ht hQ HK2 HS2 HB2
     go_loopw [53] (fun v53 wr=>∃n:Nat,n≤5∧v53 = .int .i64 (n:Int)∧Hid (Below t.heap.size t wr)) (fun v53 _=>5-(intOf v53).toNat)
     case atStart=>exact⟨0,by omega,rfl,hide (Below.refl _ _)⟩
     case round=>
      obtain⟨n,hn,rfl,HBn⟩:=hrel
      obtain⟨wc,rfl⟩:∃z:World,z=wr:=⟨_,rfl⟩
      by_cases hln:n<5
      ·have hn1:(n:Int)<5:=by omega
       obtain⟨k,j1,j2,j3,j4,e0,e1,e2,e3,e4,b0,b1,b2,b3,b4⟩:=(HJR.out.next HBn.out).2 n hln
       have HEs:=hide (And.intro e0 (And.intro e1 (And.intro e2 (And.intro e3 e4))))
       clear e0 e1 e2 e3 e4
       have HKc:=hide (HKt.out.trans (HBn.out.mono HKt.out.size))
       go_upto_region 14 with fail
       obtain⟨t1,ht1⟩:∃t,wc.alloc (.cells #[.int .u8 k,.int .i64 j1,.int .i64 j2,.int .i64 j3,.int .i64 j4] 26)=t:=⟨_,rfl⟩
       have hb1:Below wc.heap.size wc t1:=by rw[←ht1];exact (Below.refl _ _).alloc (Nat.le_refl _) _
       have hj1:t1.heap[wc.heap.size]?=some (.cells #[.int .u8 k,.int .i64 j1,.int .i64 j2,.int .i64 j3,.int .i64 j4] 26):=by rw[←ht1];exact heap_alloc_last _ _
       rw[ht1]
       obtain⟨J,hJ⟩:∃J,wc.heap.size=J:=⟨_,rfl⟩
       rw[hJ] at hj1 ⊢
       have hJx:=lt_of_block hj1
       have HJx:=hide hj1
       have HK1b:=hide (HKc.out.trans (hb1.mono HKc.out.size))
       have HS1b:=hide ((HSt.out.next HBn.out).next hb1)
       have HB1b:=hide (HBn.out.trans (hb1.mono HBn.out.size))
       clear ht1 hb1 hj1 hJ b0 b1 b2 b3 b4 HKc HBn
       obtain⟨g0,g1⟩:=zr2 ((HK1b.out.block _ hGx).trans HGx.out)
       have HJ0:=hide (Below.refl t1.heap.size t1)
       obtain⟨a0,a1,a2,a3,a4⟩:=zr5 ((HJ0.out.block _ hJx).trans HJx.out)
       go_wp2_with fail
       refine (HS1b.out.seqrun k j1 j2 j3 j4).mono ?_
       rintro e z ⟨r,Av,Ac,Ai,nn,cv,cc,ci,E,rfl,hl,hi,hz⟩
       have HLr:=hide hl
       have HIz:=hide hi
       have HKz:=hide (HK1b.out.trans (hz.mono HK1b.out.size))
       have HSz:=hide (HS1b.out.next hz)
       have HBz:=hide (HB1b.out.trans (hz.mono HB1b.out.size))
       have HJz:Hid (Below t1.heap.size t1 z):=hide hz
       clear hl hi hz g0 g1 a0 a1 a2 a3 a4 HK1b HS1b HB1b HJ0
       go_upto_region 15 with fail
       obtain⟨t2,ht2⟩:∃t,z.alloc (.cells #[.int .i64 r.st,.slice Av nn cv,.slice Ac nn cc,.slice Ai nn ci,.int .i64 r.sm,.int .i64 r.mo] 35)=t:=⟨_,rfl⟩
       have hb2:Below z.heap.size z t2:=by rw[←ht2];exact (Below.refl _ _).alloc (Nat.le_refl _) _
       have hr2:t2.heap[z.heap.size]?=some (.cells #[.int .i64 r.st,.slice Av nn cv,.slice Ac nn cc,.slice Ai nn ci,.int .i64 r.sm,.int .i64 r.mo] 35):=by rw[←ht2];exact heap_alloc_last _ _
       rw[ht2]
       have HZ2:=hide hb2
       have hzT:z.heap.size≤t2.heap.size:=hb2.size
       obtain⟨T,hT⟩:∃T,z.heap.size=T:=⟨_,rfl⟩
       rw[hT] at hr2 ⊢
       have hTx:=lt_of_block hr2
       have HTx:=hide hr2
       have HT:=hide hT
       have HK2:=hide (HKz.out.trans (hb2.mono HKz.out.size))
       have HJ2:=hide (HJz.out.trans (hb2.mono HJz.out.size))
       have HS2:=hide (HSz.out.next hb2)
       have HI2:=hide (HIz.out.next hb2)
       clear ht2 hb2 hr2 hT
       have hG2:G<t2.heap.size:=by have:=HK2.out.size;omega
       have hJ2:J<t2.heap.size:=by have:=HJ2.out.size;omega
       obtain⟨g0,g1⟩:=zr2 ((HK2.out.block _ hGx).trans HGx.out)
       obtain⟨a0,a1,a2,a3,a4⟩:=zr5 ((HJ2.out.block _ hJx).trans HJx.out)
       obtain⟨d0,d1,d2,d3,d4,d5⟩:=zr6 HTx.out
       go_wp2_with fail
       refine (HS2.out.run k j1 j2 j3 j4 HEs.out.1 HEs.out.2.1 HEs.out.2.2.1 HEs.out.2.2.2.1 HEs.out.2.2.2.2 s (by omega) (by omega) 1 (by decide) (by decide)).mono ?_
       rintro e z1 ⟨rfl,hz⟩
       have HD1:Hid (Below t2.heap.size t2 z1):=hide hz
       clear hz g0 g1 a0 a1 a2 a3 a4 d0 d1 d2 d3 d4 d5
       have HKd1:=hide (HK2.out.trans (HD1.out.mono HK2.out.size))
       have HJd1:=hide (HJ2.out.trans (HD1.out.mono HJ2.out.size))
       obtain⟨g0,g1⟩:=zr2 ((HKd1.out.block _ hGx).trans HGx.out)
       obtain⟨a0,a1,a2,a3,a4⟩:=zr5 ((HJd1.out.block _ hJx).trans HJx.out)
       obtain⟨d0,d1,d2,d3,d4,d5⟩:=zr6 ((HD1.out.block T hTx).trans HTx.out)
       go_wp2_with fail
       refine ((HS2.out.next HD1.out).run k j1 j2 j3 j4 HEs.out.1 HEs.out.2.1 HEs.out.2.2.1 HEs.out.2.2.2.1 HEs.out.2.2.2.2 (s+1) (by omega) (by omega) 4611686018427387904 (by decide) (by decide)).mono ?_
       rintro e z2 ⟨rfl,hz⟩
       have HD2:Hid (Below t2.heap.size t2 z2):=hide (HD1.out.trans (hz.mono HD1.out.size))
       clear hz g0 g1 a0 a1 a2 a3 a4 d0 d1 d2 d3 d4 d5
       have HKd2:=hide (HK2.out.trans (HD2.out.mono HK2.out.size))
       have HJd2:=hide (HJ2.out.trans (HD2.out.mono HJ2.out.size))
       obtain⟨g0,g1⟩:=zr2 ((HKd2.out.block _ hGx).trans HGx.out)
       obtain⟨a0,a1,a2,a3,a4⟩:=zr5 ((HJd2.out.block _ hJx).trans HJx.out)
       obtain⟨d0,d1,d2,d3,d4,d5⟩:=zr6 ((HD2.out.block T hTx).trans HTx.out)
       go_wp2_with fail
       refine ((HS2.out.next HD2.out).means k j1 j2 j3 j4 r Av Ac Ai nn nn nn cv cc ci HLr.out (HI2.out.next HD2.out)).mono ?_
       rintro e z3 ⟨rfl,hz⟩
       have HD3:Hid (Below t2.heap.size t2 z3):=hide (HD2.out.trans (hz.mono HD2.out.size))
       clear hz g0 g1 a0 a1 a2 a3 a4 d0 d1 d2 d3 d4 d5
       have HBk:Hid (Below T z z3):=hide (by have h:=HZ2.out.trans (HD3.out.mono HZ2.out.size);rw[HT.out] at h;exact h)
       have HRk:=hide ((HD3.out.block T hTx).trans HTx.out)
       go_wp2
       go_loopw [8] (fun v8 wr=>∃(q:Nat) (ST:Int),q≤6∧v8 = .int .i64 (2*(q:Int)-1)∧Hid (Below T z wr)∧Hid (wr.heap[T]?=some (.cells #[.int .i64 ST,.slice Av nn cv,.slice Ac nn cc,.slice Ai nn ci,.int .i64 r.sm,.int .i64 r.mo] 35))) (fun v8 _=>(11-intOf v8).toNat)
       case atStart=>exact⟨0,r.st,by omega,rfl,HBk,HRk⟩
       case round=>
        obtain⟨q,ST,hq,rfl,HBq,HRq⟩:=hrel
        obtain⟨wd,rfl⟩:∃z:World,z=wr:=⟨_,rfl⟩
        by_cases hlq:q<6
        ·have hq1:2*(q:Int)-1<10:=by omega
         have hTd:=lt_of_block HRq.out
         obtain⟨d0,d1,d2,d3,d4,d5⟩:=zr6 HRq.out
         have f0:=zf HRq.out 0
         go_upto_region 21 with fail
         obtain⟨t3,ht3⟩:∃t,wd.setCell ⟨T,0,none⟩ (.int .i64 (2*(q:Int)-1))=t:=⟨_,rfl⟩
         have HB3:Hid (Below T z t3):=hide (by rw[←ht3];exact HBq.out.setCell (p:=⟨T,0,none⟩) (Nat.le_refl _) _)
         have HR3:Hid (t3.heap[T]?=some (.cells #[.int .i64 (2*(q:Int)-1),.slice Av nn cv,.slice Ac nn cc,.slice Ai nn ci,.int .i64 r.sm,.int .i64 r.mo] 35)):=hide (by rw[←ht3];exact heap_setCell_same wd T 0 _ _ _ HRq.out)
         rw[ht3]
         have hT3:=lt_of_block HR3.out
         have hTz:Below z.heap.size z t3:=by have h:=HB3.out;rw[←HT.out] at h;exact h
         have HKe:=hide (HKz.out.trans (hTz.mono HKz.out.size))
         have HJe:=hide (HJz.out.trans (hTz.mono HJz.out.size))
         have HSe:=hide (HSz.out.next hTz)
         have HIe:=hide (HIz.out.next hTz)
         clear ht3 hTz f0 d0 d1 d2 d3 d4 d5
         obtain⟨g0,g1⟩:=zr2 ((HKe.out.block _ hGx).trans HGx.out)
         obtain⟨a0,a1,a2,a3,a4⟩:=zr5 ((HJe.out.block _ hJx).trans HJx.out)
         obtain⟨d0,d1,d2,d3,d4,d5⟩:=zr6 HR3.out
         go_wp2_with fail
         refine (HSe.out.means k j1 j2 j3 j4 { r with st:=2*(q:Int)-1 } Av Ac Ai nn nn nn cv cc ci HLr.out ⟨HIe.out.vals,HIe.out.chg,HIe.out.inb⟩).mono ?_
         rintro e t4 ⟨rfl,hz⟩
         have HB4:Hid (Below T z t4):=hide (HB3.out.trans (hz.mono (by omega)))
         have HR4:=hide ((hz.block T hT3).trans HR3.out)
         clear hz g0 g1 a0 a1 a2 a3 a4 d0 d1 d2 d3 d4 d5
         go_wp2
         go_roundw
         case rel=>exact⟨q+1,2*(q:Int)-1,by omega,by go_num,HB4,HR4⟩
         case measure=>simp[intOf];omega
        have hq1:¬2*(q:Int)-1<10:=by omega
        go_wp2
        go_roundw
        case rel=>exact⟨n+1,by omega,by go_num,hide (HBz.out.trans ((by have h:=HBq.out;rw[←HT.out] at h;exact h:Below z.heap.size z wd).mono HBz.out.size))⟩
        case measure=>simp[intOf];omega
      have hn1:¬(n:Int)<5:=by omega
      go_wp2
      go_roundw
      case rel=>exact⟨s+1,by omega,by omega,by go_num,hide (HBt.out.trans (HBn.out.mono HBt.out.size))⟩
      case measure=>simp[intOf];omega
    go_wp2
    go_roundw
    case rel=>exact⟨i+1,by omega,by go_num,hide (HB1.out.trans (HBs.out.mono HB1.out.size))⟩
    case measure=>simp[intOf];omega
  have hI1:¬(i:Int)<7:=by omega
  go_wp2_with fail
  refine (works_any wa).mono ?_
  rintro e wz ⟨rfl,hz⟩
  have HF:=hide (HB.out.trans ((HBr.out.trans (hz.mono HBr.out.size)).mono HB.out.size))
  clear hz
  go_wp2
  go_ret
  exact⟨rfl,HF.out⟩
end Go.Proofs.YtgbahnlgblahpaaGreat

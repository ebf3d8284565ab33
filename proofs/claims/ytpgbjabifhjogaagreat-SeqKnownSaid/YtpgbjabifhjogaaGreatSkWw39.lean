/- Lemmas: Qlh, Qlt, Qla, Qlr. -/
import Derived.Test.YtpgbjabifhjogaaGreatProg
import Derived.Deep.Strs
import Derived.Test.YtpgbjabifhjogaaGreatSkWw37
import Derived.Test.YtpgbjabifhjogaaGreatSkWw38
set_option linter.unusedVariables false
set_option linter.unusedSimpArgs false
set_option maxRecDepth 100000
set_option maxHeartbeats 16000000
namespace Go.Proofs.YtpgbjabifhjogaaGreat
open Go.RowKit Go.Shelf
attribute [local go_sem] Oper.semAt_some
theorem sameV_rfl (p:SV):sameV p p=true:=by simp[sameV,eqL]
def lit12 (V:Int) (es:List Ed):Bool:=decide ((es.length:Int)≤80) && (decide (V≤12) || decide (checkF V es≠0))
theorem lit12_le {V:Int} {es:List Ed} (h:lit12 V es=true):es.length≤80:=by
 unfold lit12 at h
 simp only[Bool.and_eq_true,decide_eq_true_eq] at h
 omega
def zeroV:SV:=⟨0,[],[],[],0,0⟩
def resV (E:Int) (s:SV):SV:=if E=0 then s else zeroV
theorem TillPost.val {w:World} {E:Int} {V:Nat} {s:SV} {e:Ending} {w':World} (h:TillPost w E V s e w') (hs:E=0→OkS V s∧V≤512) :
  ∃Av Ac Ai nv nc ni cv cc ci,e = .returned (.tuple #[.agg #[.int .i64 (resV E s).st,.slice Av nv cv,.slice Ac nc cc,.slice Ai ni ci,.int .i64 (resV E s).sm,.int .i64 (resV E s).mo],.int .i64 E])∧VLen (resV E s) nv nc ni∧VIn w' (resV E s) Av Ac Ai∧Below w.heap.size w w'∧nv≤512∧nc≤512∧ni≤512:=by
 rcases h with ⟨h,he,hb⟩ | ⟨h,Av,Ac,Ai,cv,cc,ci,he,hin,hb,_⟩
 ·rw[show resV E s=zeroV from if_neg h]
  exact⟨none,none,none,0,0,0,0,0,0,he,⟨rfl,rfl,rfl⟩,⟨fun hn=>absurd rfl hn,fun hn=>absurd rfl hn,fun hn=>absurd rfl hn⟩,hb,by omega,by omega,by omega⟩
 subst h
 rw[show resV 0 s=s from if_pos rfl]
 have hk:=hs rfl
 exact⟨Av,Ac,Ai,V,V,V,cv,cc,ci,he,⟨hk.1.lv,hk.1.lc,hk.1.li⟩,hin,hb,hk.2,hk.2,hk.2⟩
theorem lightq_any (w:World) (V:Int) (A:Option Addr) (es:List Ed) (L c:Nat) (hL:es.length=L) (hL9:L≤9223372036854775807) (hE:Eds w w.heap.size A es):Calls Tryz.prog 10 #[.agg #[.int .i64 V,.slice A L c]] w fun e w'=>e = .returned (.bool (lit12 V es))∧Below w.heap.size w w':=by
 have HL:=hide hL
 have HE:=hide hE
 clear hL hE
 obtain⟨u,hu⟩:∃u,w.alloc (.cells #[.int .i64 V,.slice A L c] 24)=u:=⟨_,rfl⟩
 have HB:=hide (show Below w.heap.size w u by rw[←hu];exact (Below.refl _ _).alloc (Nat.le_refl _) _)
 have hz:w.heap.size<u.heap.size:=by rw[←hu];simp
 have hG:u.heap[w.heap.size]?=some (.cells #[.int .i64 V,.slice A L c] 24):=by rw[←hu];exact heap_alloc_last _ _
 have HG:=hide hG
 have HU:=hide hu
 obtain⟨c0,c1⟩:=zr2 hG
 clear hu hG
 rcases hv:lit12 V es with _ | _
 ·by_cases h8:L≤80
  rotate_left
  ·clear hv
   have hlc:=light_any u V A L c 80
   rw[show decide ((L:Int)≤80)=false by simp;omega] at hlc
   have HLC:=hide hlc
   clear hlc
   go_enter Tryz.func10,Tryz.ntmps10
   go_upto_region 1 with fail
   rw[HU.out]
   go_wp2_with fail
   refine HLC.out.mono ?_
   rintro e y ⟨rfl,hy⟩
   have HY:=hide hy
   have szy:u.heap.size≤y.heap.size:=hy.size
   clear hy c0 c1
   have HF:=hide (HB.out.trans (HY.out.mono HB.out.size))
   go_wp2
   go_ret
   first | exact⟨rfl,HF.out⟩ | exact⟨ret_b (by simp[h12]),HF.out⟩
  have h12:¬V≤12:=by intro h;simp[lit12,HL.out,h] at hv;omega
  have hc0:checkF V es=0:=by simp[lit12,HL.out] at hv;omega
  clear hv
  have hlc:=light_any u V A L c 80
  rw[show decide ((L:Int)≤80)=true by simp;omega] at hlc
  have HLC:=hide hlc
  clear hlc
  go_enter Tryz.func10,Tryz.ntmps10
  go_upto_region 1 with fail
  rw[HU.out]
  go_wp2_with fail
  refine HLC.out.mono ?_
  rintro e y ⟨rfl,hy⟩
  have HY:=hide hy
  have szy:u.heap.size≤y.heap.size:=hy.size
  clear hy c0 c1
  have zy:w.heap.size<y.heap.size:=by omega
  obtain⟨c0,c1⟩:=zr2 ((HY.out.block _ hz).trans HG.out)
  have hck:=rcheck_any y V A es L c HL.out ((HE.out.below (HB.out.trans (HY.out.mono HB.out.size)) (Nat.le_refl _)).more (HB.out.trans (HY.out.mono HB.out.size)).size) hL9
  rw[hc0] at hck
  have HCK:=hide hck
  clear hck hc0
  go_wp2_with fail
  refine HCK.out.mono ?_
  rintro e z ⟨rfl,hzz⟩
  have HF:=hide ((HB.out.trans (HY.out.mono HB.out.size)).trans (hzz.mono (by have:=HB.out.size;omega)))
  clear hzz
  go_wp2
  go_ret
  first | exact⟨rfl,HF.out⟩ | exact⟨ret_b (by simp[h12]),HF.out⟩
 have h8:L≤80:=by have:=lit12_le hv;have:=HL.out;omega
 by_cases h12:V≤12
 ·clear hv
  have hlc:=light_any u V A L c 80
  rw[show decide ((L:Int)≤80)=true by simp;omega] at hlc
  have HLC:=hide hlc
  clear hlc
  go_enter Tryz.func10,Tryz.ntmps10
  go_upto_region 1 with fail
  rw[HU.out]
  go_wp2_with fail
  refine HLC.out.mono ?_
  rintro e y ⟨rfl,hy⟩
  have HY:=hide hy
  have szy:u.heap.size≤y.heap.size:=hy.size
  clear hy c0 c1
  have zy:w.heap.size<y.heap.size:=by omega
  obtain⟨c0,c1⟩:=zr2 ((HY.out.block _ hz).trans HG.out)
  have HF:=hide (HB.out.trans (HY.out.mono HB.out.size))
  go_wp2
  go_ret
  first | exact⟨rfl,HF.out⟩ | exact⟨ret_b (by simp[h12]),HF.out⟩
 have hc0:checkF V es≠0:=by simp[lit12,HL.out] at hv;omega
 clear hv
 have hlc:=light_any u V A L c 80
 rw[show decide ((L:Int)≤80)=true by simp;omega] at hlc
 have HLC:=hide hlc
 clear hlc
 go_enter Tryz.func10,Tryz.ntmps10
 go_upto_region 1 with fail
 rw[HU.out]
 go_wp2_with fail
 refine HLC.out.mono ?_
 rintro e y ⟨rfl,hy⟩
 have HY:=hide hy
 have szy:u.heap.size≤y.heap.size:=hy.size
 clear hy c0 c1
 have zy:w.heap.size<y.heap.size:=by omega
 obtain⟨c0,c1⟩:=zr2 ((HY.out.block _ hz).trans HG.out)
 have hck:=rcheck_any y V A es L c HL.out ((HE.out.below (HB.out.trans (HY.out.mono HB.out.size)) (Nat.le_refl _)).more (HB.out.trans (HY.out.mono HB.out.size)).size) hL9
 obtain⟨E,hEe⟩:∃E,checkF V es=E:=⟨_,rfl⟩
 rw[hEe] at hck hc0
 have hE1:(E == 0)=false:=by simpa using hc0
 have hE2:(E != 0)=true:=by simpa using hc0
 have HCK:=hide hck
 clear hck hc0
 clear hEe
 go_wp2_with fail
 refine HCK.out.mono ?_
 rintro e z ⟨rfl,hzz⟩
 have HF:=hide ((HB.out.trans (HY.out.mono HB.out.size)).trans (hzz.mono (by have:=HB.out.size;omega)))
 clear hzz
 go_wp2
 go_ret
 first | exact⟨rfl,HF.out⟩ | exact⟨ret_b (by simp[h12]),HF.out⟩
attribute [local go_sem] Oper.semAt_some
theorem seqStart_walk (w:World) (V:Int) (A:Option Addr) (es:List Ed) (c:Nat) (hV1:-9223372036854775808≤V) (hV2:V≤9223372036854775807) (hE:Eds w w.heap.size A es) (hl:es.length≤c) (hc:c≤9223372036854775807) (hB:∀e∈es,edB e) (k j1 j2 j3 j4:Int) (hk:0≤k∧k≤255) (hj1:i64B j1) (hj2:i64B j2) (hj3:i64B j3) (hj4:i64B j4) :
  Calls Tryz.prog 4 #[.agg #[.int .i64 V,.slice A es.length c],.agg #[.int .u8 k,.int .i64 j1,.int .i64 j2,.int .i64 j3,.int .i64 j4]] w fun e w'=>e = .returned (.bool true)∧Below w.heap.size w w':=by
 have HE:=hide hE
 obtain⟨L,hL⟩:∃q,es.length=q:=⟨_,rfl⟩
 rw[hL] at hl ⊢
 have HL:=hide hL
 clear hL hE hB
 obtain⟨u,hu⟩:∃u,(w.alloc (.cells #[.int .i64 V,.slice A L c] 24)).alloc (.cells #[.int .u8 k,.int .i64 j1,.int .i64 j2,.int .i64 j3,.int .i64 j4] 26)=u:=⟨_,rfl⟩
 have HU:=hide (allocs2 hu)
 have HUe:=hide hu
 clear hu
 have hzu:u.heap.size=w.heap.size+2:=HU.out.2.1
 have hu0:w.heap.size<u.heap.size:=by omega
 have hu1:w.heap.size+1<u.heap.size:=by omega
 have K0:=hide (Below.refl u.heap.size u)
 rcases hv:lit12 V es with _ | _
 ·have HV:=hide hv
  have hlq:=lightq_any u V A es L c HL.out (by omega) ((HE.out.below HU.out.1 (Nat.le_refl _)).more HU.out.1.size)
  rw[hv] at hlq
  have HLQ:=hide hlq
  clear hlq
  clear hv
  obtain⟨c0,c1⟩:=zr2 ((K0.out.block _ hu0).trans HU.out.2.2.1)
  obtain⟨d0,d1,d2,d3,d4⟩:=zr5 ((K0.out.block _ hu1).trans HU.out.2.2.2)
  have hz0:w.heap.size<u.heap.size:=by have:=K0.out.size;omega
  have hz1:w.heap.size+1<u.heap.size:=by have:=K0.out.size;omega
  go_enter Tryz.func4,Tryz.ntmps4
  go_upto_region 1 with fail
  rw[HUe.out]
  go_wp2_with fail
  refine HLQ.out.mono ?_
  rintro e v1 ⟨rfl,hb⟩
  have K1:Hid (Below u.heap.size u v1):=hide hb
  have sv1:u.heap.size≤v1.heap.size:=hb.size
  clear hb
  clear c0 c1 d0 d1 d2 d3 d4 hz0 hz1
  go_wp2_with fail
  refine (works_any _).mono ?_
  rintro e zz ⟨rfl,hzz⟩
  have HZ:=hide (HU.out.1.trans ((K1.out.trans (hzz.mono K1.out.size)).mono (by omega)))
  clear hzz
  go_wp2
  go_ret
  exact⟨rfl,HZ.out⟩
 obtain⟨i0,hi0,hz0x,hz1x,hz2x⟩:=info_parts (show (Tryz.prog.info? 58).map (fun i=>(i.zero,i.size,i.bytes))=some (some (.agg #[.int .i64 0,.int .i64 0,.int .i64 0]),3,24) by kernel_rfl)
 have HV:=hide hv
 have hlq:=lightq_any u V A es L c HL.out (by omega) ((HE.out.below HU.out.1 (Nat.le_refl _)).more HU.out.1.size)
 rw[hv] at hlq
 have HLQ:=hide hlq
 clear hlq
 have hL8:L≤80:=by have:=lit12_le hv;have:=HL.out;omega
 clear hv
 obtain⟨E,hEe⟩:∃q,(acheckF k j1 j2 j3 j4 V es)=q:=⟨_,rfl⟩
 obtain⟨s,hse⟩:∃q,(startV k j2 es V.toNat)=q:=⟨_,rfl⟩
 obtain⟨Vn,hVn⟩:∃q,V.toNat=q:=⟨_,rfl⟩
 have HOK:Hid (E=0→OkS Vn s∧Vn≤512):=hide (fun h0=>by
  have hch:acheckF k j1 j2 j3 j4 V es=0:=by rw[hEe];exact h0
  have hok:=acheck_ok hch
  rw[←hse,←hVn]
  exact⟨startV_ok (by omega) hok.1.2.2,by omega⟩)
 have HA:=hide (fun (x:World) (hx:Below u.heap.size u x)=>qstart_any x V A es L c HL.out (by omega) ((HE.out.below (HU.out.1.trans (hx.mono (by omega))) (Nat.le_refl _)).more (HU.out.1.trans (hx.mono (by omega))).size) k j1 j2 j3 j4 (fun _=>hL8))
 have HD:=hide (fun (x:World) (hx:Below u.heap.size u x)=>qrstart_any x V A es L c HL.out (by omega) ((HE.out.below (HU.out.1.trans (hx.mono (by omega))) (Nat.le_refl _)).more (HU.out.1.trans (hx.mono (by omega))).size) k j1 j2 j3 j4 (fun _=>hL8))
 rw[hse,hEe,hVn] at HA HD
 obtain⟨p,hp⟩:∃q,resV E s=q:=⟨_,rfl⟩
 clear hEe hse hVn
 obtain⟨c0,c1⟩:=zr2 ((K0.out.block _ hu0).trans HU.out.2.2.1)
 obtain⟨d0,d1,d2,d3,d4⟩:=zr5 ((K0.out.block _ hu1).trans HU.out.2.2.2)
 have hz0:w.heap.size<u.heap.size:=by have:=K0.out.size;omega
 have hz1:w.heap.size+1<u.heap.size:=by have:=K0.out.size;omega
 go_enter Tryz.func4,Tryz.ntmps4
 go_upto_region 1 with fail
 rw[HUe.out]
 go_wp2_with fail
 refine HLQ.out.mono ?_
 rintro e v1 ⟨rfl,hb⟩
 have K1:Hid (Below u.heap.size u v1):=hide hb
 have sv1:u.heap.size≤v1.heap.size:=hb.size
 clear hb
 clear c0 c1 d0 d1 d2 d3 d4 hz0 hz1
 have HEv:=hide ((HE.out.below (HU.out.1.trans (K1.out.mono (by omega))) (Nat.le_refl _)).more (HU.out.1.trans (K1.out.mono (by omega))).size)
 have hefl:(edFlat es).length=L*3:=by rw[edFlat_len,HL.out]
 obtain⟨c0,c1⟩:=zr2 ((K1.out.block _ hu0).trans HU.out.2.2.1)
 obtain⟨d0,d1,d2,d3,d4⟩:=zr5 ((K1.out.block _ hu1).trans HU.out.2.2.2)
 have hz0:w.heap.size<v1.heap.size:=by have:=K1.out.size;omega
 have hz1:w.heap.size+1<v1.heap.size:=by have:=K1.out.size;omega
 go_upto_region 5 with (at_builtin;refine wpList_app rfl (.tmp 14) (.tmp 16) 22 rfl v1.heap.size 58 i0 (.agg #[.int .i64 0,.int .i64 0,.int .i64 0]) 3 24 Tryz.underlying22 hi0 hz0x hz1x hz2x rfl (by decide) (.slice none 0 0) 0 [] rfl (World.ownsRow_nil _ _ _ _) v1.heap.size A L c (edFlat es) rfl hefl (Eds.rd HEv.out) (edFlat_one es) (by unfold maxLen;omega) (by omega) (Nat.le_refl _) ?_)
 intro Ao co v2 own2 hg2 hat2
 have HOw:Hid (v2.ownsRow v1.heap.size 58 3 (.slice Ao L co) L (edFlat es)):=hide (by simpa using own2)
 have K2:=hide (K1.out.trans ((Below.refl v1.heap.size v1).grown hg2 (Nat.le_refl _) (fun q e=>by cases e) |>.mono sv1))
 have sv2:v1.heap.size≤v2.heap.size:=hg2.size
 clear own2 hg2 hat2 hefl hi0 hz0x hz1x hz2x
 clear c0 c1 d0 d1 d2 d3 d4 hz0 hz1
 obtain⟨c0,c1⟩:=zr2 ((K2.out.block _ hu0).trans HU.out.2.2.1)
 obtain⟨d0,d1,d2,d3,d4⟩:=zr5 ((K2.out.block _ hu1).trans HU.out.2.2.2)
 have hz0:w.heap.size<v2.heap.size:=by have:=K2.out.size;omega
 have hz1:w.heap.size+1<v2.heap.size:=by have:=K2.out.size;omega
 go_wp2_with fail
 refine (HA.out v2 K2.out).mono ?_
 intro e y hpost
 obtain⟨Av1,Ac1,Ai1,nv1,nc1,ni1,cv1,cc1,ci1,he,hl1,hi1,hb0,m11,m21,m31⟩:=hpost.val HOK.out
 rw[hp] at he hl1 hi1
 subst he
 have HL1:=hide hl1
 have KY:=hide (K2.out.trans (hb0.mono K2.out.size))
 have syy:=KY.out.size
 clear c0 c1 d0 d1 d2 d3 d4 hz0 hz1
 clear hpost hl1
 go_upto_region 6 with fail
 obtain⟨a1,ha⟩:∃q,y.alloc (.cells #[.int .i64 p.st,.slice Av1 nv1 cv1,.slice Ac1 nc1 cc1,.slice Ai1 ni1 ci1,.int .i64 p.sm,.int .i64 p.mo] 33)=q:=⟨_,rfl⟩
 have hAl:Below y.heap.size y a1:=by rw[←ha];exact (Below.refl _ _).alloc (Nat.le_refl _) _
 have HS1:=hide (show a1.heap[y.heap.size]?=some (.cells #[.int .i64 p.st,.slice Av1 nv1 cv1,.slice Ac1 nc1 cc1,.slice Ai1 ni1 ci1,.int .i64 p.sm,.int .i64 p.mo] 33) by rw[←ha];exact heap_alloc_last _ _)
 have sa1:y.heap.size<a1.heap.size:=by rw[←ha];simp
 rw[ha]
 have HI1:=hide (hi1.next hAl)
 have HV2A:Hid (Below v2.heap.size v2 a1):=hide (hb0.trans (hAl.mono hb0.size))
 have KA:=hide (KY.out.trans (hAl.mono KY.out.size))
 obtain⟨T1,hT⟩:∃q,y.heap.size=q:=⟨_,rfl⟩
 rw[hT] at HS1 sa1 ⊢
 clear ha hAl hi1 KY syy hT hb0
 obtain⟨c0,c1⟩:=zr2 ((KA.out.block _ hu0).trans HU.out.2.2.1)
 obtain⟨d0,d1,d2,d3,d4⟩:=zr5 ((KA.out.block _ hu1).trans HU.out.2.2.2)
 have hz0:w.heap.size<a1.heap.size:=by have:=KA.out.size;omega
 have hz1:w.heap.size+1<a1.heap.size:=by have:=KA.out.size;omega
 go_wp2_with fail
 refine (HD.out a1 KA.out).mono ?_
 intro e y hpost
 obtain⟨Av2,Ac2,Ai2,nv2,nc2,ni2,cv2,cc2,ci2,he,hl2,hi2,hbx,m12,m22,m32⟩:=hpost.val HOK.out
 rw[hp] at he hl2 hi2
 subst he
 have HL2:=hide hl2
 have KY:=hide (KA.out.trans (hbx.mono KA.out.size))
 have syy:=KY.out.size
 clear c0 c1 d0 d1 d2 d3 d4 hz0 hz1
 clear hpost hl2
 go_upto_region 7 with fail
 obtain⟨a2,ha⟩:∃q,y.alloc (.cells #[.int .i64 p.st,.slice Av2 nv2 cv2,.slice Ac2 nc2 cc2,.slice Ai2 ni2 ci2,.int .i64 p.sm,.int .i64 p.mo] 33)=q:=⟨_,rfl⟩
 have hAl:Below y.heap.size y a2:=by rw[←ha];exact (Below.refl _ _).alloc (Nat.le_refl _) _
 have HS2:=hide (show a2.heap[y.heap.size]?=some (.cells #[.int .i64 p.st,.slice Av2 nv2 cv2,.slice Ac2 nc2 cc2,.slice Ai2 ni2 ci2,.int .i64 p.sm,.int .i64 p.mo] 33) by rw[←ha];exact heap_alloc_last _ _)
 have sa2:y.heap.size<a2.heap.size:=by rw[←ha];simp
 rw[ha]
 have HI2:=hide (hi2.next hAl)
 have KB:=hide (KY.out.trans (hAl.mono KY.out.size))
 obtain⟨T2,hT⟩:∃q,y.heap.size=q:=⟨_,rfl⟩
 have HAB:Hid (Below a1.heap.size a1 a2):=hide (hbx.trans (hAl.mono hbx.size))
 rw[hT] at HS2 sa2 ⊢
 clear ha hAl hi2 KY syy hT hbx
 have hT2:T1<a2.heap.size:=by have:=HAB.out.size;omega
 obtain⟨x0,x1,x2,x3,x4,x5⟩:=zr6 ((HAB.out.block _ sa1).trans HS1.out)
 obtain⟨y0,y1,y2,y3,y4,y5⟩:=zr6 HS2.out
 have hc1:=qrsame_any a2 p Av1 Ac1 Ai1 nv1 nc1 ni1 cv1 cc1 ci1 HL1.out (HI1.out.next HAB.out) p Av2 Ac2 Ai2 nv2 nc2 ni2 cv2 cc2 ci2 HL2.out HI2.out (by omega) (by omega) (by omega)
 rw[sameV_rfl] at hc1
 have HC1:=hide hc1
 clear hc1
 go_wp2_with fail
 refine HC1.out.mono ?_
 rintro e n1 ⟨rfl,hn⟩
 have N1:=hide hn
 have sn1:a2.heap.size≤n1.heap.size:=hn.size
 clear hn x0 y0 x1 y1 x2 y2 x3 y3 x4 y4 x5 y5
 have KN:=hide (KB.out.trans (N1.out.mono KB.out.size))
 have hVN:Below v2.heap.size v2 n1:=(((HV2A.out).trans (HAB.out.mono (by have:=HV2A.out.size;omega))).trans (N1.out.mono (by have:=HV2A.out.size;have:=HAB.out.size;omega)))
 have hEo:=Eds.of_rd (Rd.of_own (own_below HOw.out hVN (fun g hg=>(HOw.out.lt g hg).2))) HE.out.wt
 have hc2:=sameEdges_any n1 Ao A es es L L co c HL.out HL.out (by omega) hEo ((HE.out.below (HU.out.1.trans (KN.out.mono (by omega))) (Nat.le_refl _)).more (HU.out.1.trans (KN.out.mono (by omega))).size)
 rw[show eqL es es=true by simp[eqL]] at hc2
 have HC2:=hide hc2
 clear hc2 hEo hVN
 obtain⟨c0,c1⟩:=zr2 ((KN.out.block _ hu0).trans HU.out.2.2.1)
 obtain⟨d0,d1,d2,d3,d4⟩:=zr5 ((KN.out.block _ hu1).trans HU.out.2.2.2)
 have hz0:w.heap.size<n1.heap.size:=by have:=KN.out.size;omega
 have hz1:w.heap.size+1<n1.heap.size:=by have:=KN.out.size;omega
 go_wp2_with fail
 refine HC2.out.mono ?_
 rintro e n2 ⟨rfl,hn⟩
 have KM:=hide (KN.out.trans (hn.mono KN.out.size))
 clear hn
 clear c0 c1 d0 d1 d2 d3 d4 hz0 hz1
 go_wp2_with fail
 refine (works_any _).mono ?_
 rintro e zz ⟨rfl,hzz⟩
 have HZ:=hide (HU.out.1.trans ((KM.out.trans (hzz.mono KM.out.size)).mono (by omega)))
 clear hzz
 go_wp2
 go_ret
 exact⟨rfl,HZ.out⟩
attribute [local go_sem] Oper.semAt_some
theorem seqAt_walk (w:World) (V:Int) (A:Option Addr) (es:List Ed) (c:Nat) (hV1:-9223372036854775808≤V) (hV2:V≤9223372036854775807) (hE:Eds w w.heap.size A es) (hl:es.length≤c) (hc:c≤9223372036854775807) (hB:∀e∈es,edB e) (k j1 j2 j3 j4:Int) (hk:0≤k∧k≤255) (hj1:i64B j1) (hj2:i64B j2) (hj3:i64B j3) (hj4:i64B j4) (kk:Int) (hk1:-9223372036854775808≤kk) (hk2:kk≤9223372036854775807) :
  Calls Tryz.prog 3 #[.agg #[.int .i64 V,.slice A es.length c],.agg #[.int .u8 k,.int .i64 j1,.int .i64 j2,.int .i64 j3,.int .i64 j4],.int .i64 kk] w fun e w'=>e = .returned (.bool true)∧Below w.heap.size w w':=by
 have HE:=hide hE
 obtain⟨L,hL⟩:∃q,es.length=q:=⟨_,rfl⟩
 rw[hL] at hl ⊢
 have HL:=hide hL
 clear hL hE hB
 obtain⟨u,hu⟩:∃u,(w.alloc (.cells #[.int .i64 V,.slice A L c] 24)).alloc (.cells #[.int .u8 k,.int .i64 j1,.int .i64 j2,.int .i64 j3,.int .i64 j4] 26)=u:=⟨_,rfl⟩
 have HU:=hide (allocs2 hu)
 have HUe:=hide hu
 clear hu
 have hzu:u.heap.size=w.heap.size+2:=HU.out.2.1
 have hu0:w.heap.size<u.heap.size:=by omega
 have hu1:w.heap.size+1<u.heap.size:=by omega
 have K0:=hide (Below.refl u.heap.size u)
 rcases hv:lit12 V es with _ | _
 ·have HV:=hide hv
  have hlq:=lightq_any u V A es L c HL.out (by omega) ((HE.out.below HU.out.1 (Nat.le_refl _)).more HU.out.1.size)
  rw[hv] at hlq
  have HLQ:=hide hlq
  clear hlq
  clear hv
  obtain⟨c0,c1⟩:=zr2 ((K0.out.block _ hu0).trans HU.out.2.2.1)
  obtain⟨d0,d1,d2,d3,d4⟩:=zr5 ((K0.out.block _ hu1).trans HU.out.2.2.2)
  have hz0:w.heap.size<u.heap.size:=by have:=K0.out.size;omega
  have hz1:w.heap.size+1<u.heap.size:=by have:=K0.out.size;omega
  go_enter Tryz.func3,Tryz.ntmps3
  go_upto_region 1 with fail
  rw[HUe.out]
  go_wp2_with fail
  refine HLQ.out.mono ?_
  rintro e v1 ⟨rfl,hb⟩
  have K1:Hid (Below u.heap.size u v1):=hide hb
  have sv1:u.heap.size≤v1.heap.size:=hb.size
  clear hb
  clear c0 c1 d0 d1 d2 d3 d4 hz0 hz1
  obtain⟨c0,c1⟩:=zr2 ((K1.out.block _ hu0).trans HU.out.2.2.1)
  obtain⟨d0,d1,d2,d3,d4⟩:=zr5 ((K1.out.block _ hu1).trans HU.out.2.2.2)
  have hz0:w.heap.size<v1.heap.size:=by have:=K1.out.size;omega
  have hz1:w.heap.size+1<v1.heap.size:=by have:=K1.out.size;omega
  go_wp2_with fail
  refine (works_any _).mono ?_
  rintro e zz ⟨rfl,hzz⟩
  have HZ:=hide (HU.out.1.trans ((K1.out.trans (hzz.mono K1.out.size)).mono (by omega)))
  clear hzz
  go_wp2
  go_ret
  exact⟨rfl,HZ.out⟩
 by_cases hq1:kk≤12
 ·have hq1':¬(12<kk):=by omega
  have HV:=hide hv
  have hlq:=lightq_any u V A es L c HL.out (by omega) ((HE.out.below HU.out.1 (Nat.le_refl _)).more HU.out.1.size)
  rw[hv] at hlq
  have HLQ:=hide hlq
  clear hlq
  have hL8:L≤80:=by have:=lit12_le hv;have:=HL.out;omega
  clear hv
  obtain⟨E,hEe⟩:∃q,(atE (acheckF k j1 j2 j3 j4 V es) kk)=q:=⟨_,rfl⟩
  obtain⟨s,hse⟩:∃q,(atV k j2 j3 es V.toNat kk.toNat)=q:=⟨_,rfl⟩
  obtain⟨Vn,hVn⟩:∃q,V.toNat=q:=⟨_,rfl⟩
  have HOK:Hid (E=0→OkS Vn s∧Vn≤512):=hide (fun h0=>by
   have hch:acheckF k j1 j2 j3 j4 V es=0:=by rw[←hEe,atE] at h0;split at h0 <;> simp_all
   have hok:=acheck_ok hch
   rw[←hse,←hVn]
   exact⟨atV_ok (by omega) hok.1.2.2 _,by omega⟩)
  have HA:=hide (fun (x:World) (hx:Below u.heap.size u x)=>qat_any x V A es L c HL.out (by omega) ((HE.out.below (HU.out.1.trans (hx.mono (by omega))) (Nat.le_refl _)).more (HU.out.1.trans (hx.mono (by omega))).size) k j1 j2 j3 j4 kk (fun _=>hL8))
  have HD:=hide (fun (x:World) (hx:Below u.heap.size u x)=>qrat_any x V A es L c HL.out (by omega) ((HE.out.below (HU.out.1.trans (hx.mono (by omega))) (Nat.le_refl _)).more (HU.out.1.trans (hx.mono (by omega))).size) k j1 j2 j3 j4 kk (fun _=>hL8))
  rw[hse,hEe,hVn] at HA HD
  obtain⟨p,hp⟩:∃q,resV E s=q:=⟨_,rfl⟩
  clear hEe hse hVn
  obtain⟨c0,c1⟩:=zr2 ((K0.out.block _ hu0).trans HU.out.2.2.1)
  obtain⟨d0,d1,d2,d3,d4⟩:=zr5 ((K0.out.block _ hu1).trans HU.out.2.2.2)
  have hz0:w.heap.size<u.heap.size:=by have:=K0.out.size;omega
  have hz1:w.heap.size+1<u.heap.size:=by have:=K0.out.size;omega
  go_enter Tryz.func3,Tryz.ntmps3
  go_upto_region 1 with fail
  rw[HUe.out]
  go_wp2_with fail
  refine HLQ.out.mono ?_
  rintro e v1 ⟨rfl,hb⟩
  have K1:Hid (Below u.heap.size u v1):=hide hb
  have sv1:u.heap.size≤v1.heap.size:=hb.size
  clear hb
  clear c0 c1 d0 d1 d2 d3 d4 hz0 hz1
  obtain⟨c0,c1⟩:=zr2 ((K1.out.block _ hu0).trans HU.out.2.2.1)
  obtain⟨d0,d1,d2,d3,d4⟩:=zr5 ((K1.out.block _ hu1).trans HU.out.2.2.2)
  have hz0:w.heap.size<v1.heap.size:=by have:=K1.out.size;omega
  have hz1:w.heap.size+1<v1.heap.size:=by have:=K1.out.size;omega
  go_wp2_with fail
  refine (HA.out v1 K1.out).mono ?_
  intro e y hpost
  obtain⟨Av1,Ac1,Ai1,nv1,nc1,ni1,cv1,cc1,ci1,he,hl1,hi1,hb,m11,m21,m31⟩:=hpost.val HOK.out
  rw[hp] at he hl1 hi1
  subst he
  have HL1:=hide hl1
  have KY:=hide (K1.out.trans (hb.mono K1.out.size))
  have syy:=KY.out.size
  clear c0 c1 d0 d1 d2 d3 d4 hz0 hz1
  clear hpost hb hl1
  go_upto_region 4 with fail
  obtain⟨a1,ha⟩:∃q,y.alloc (.cells #[.int .i64 p.st,.slice Av1 nv1 cv1,.slice Ac1 nc1 cc1,.slice Ai1 ni1 ci1,.int .i64 p.sm,.int .i64 p.mo] 33)=q:=⟨_,rfl⟩
  have hAl:Below y.heap.size y a1:=by rw[←ha];exact (Below.refl _ _).alloc (Nat.le_refl _) _
  have HS1:=hide (show a1.heap[y.heap.size]?=some (.cells #[.int .i64 p.st,.slice Av1 nv1 cv1,.slice Ac1 nc1 cc1,.slice Ai1 ni1 ci1,.int .i64 p.sm,.int .i64 p.mo] 33) by rw[←ha];exact heap_alloc_last _ _)
  have sa1:y.heap.size<a1.heap.size:=by rw[←ha];simp
  rw[ha]
  have HI1:=hide (hi1.next hAl)
  have KA:=hide (KY.out.trans (hAl.mono KY.out.size))
  obtain⟨T1,hT⟩:∃q,y.heap.size=q:=⟨_,rfl⟩
  rw[hT] at HS1 sa1 ⊢
  clear ha hAl hi1 KY syy hT
  obtain⟨c0,c1⟩:=zr2 ((KA.out.block _ hu0).trans HU.out.2.2.1)
  obtain⟨d0,d1,d2,d3,d4⟩:=zr5 ((KA.out.block _ hu1).trans HU.out.2.2.2)
  have hz0:w.heap.size<a1.heap.size:=by have:=KA.out.size;omega
  have hz1:w.heap.size+1<a1.heap.size:=by have:=KA.out.size;omega
  go_wp2_with fail
  refine (HD.out a1 KA.out).mono ?_
  intro e y hpost
  obtain⟨Av2,Ac2,Ai2,nv2,nc2,ni2,cv2,cc2,ci2,he,hl2,hi2,hbx,m12,m22,m32⟩:=hpost.val HOK.out
  rw[hp] at he hl2 hi2
  subst he
  have HL2:=hide hl2
  have KY:=hide (KA.out.trans (hbx.mono KA.out.size))
  have syy:=KY.out.size
  clear c0 c1 d0 d1 d2 d3 d4 hz0 hz1
  clear hpost hl2
  go_upto_region 5 with fail
  obtain⟨a2,ha⟩:∃q,y.alloc (.cells #[.int .i64 p.st,.slice Av2 nv2 cv2,.slice Ac2 nc2 cc2,.slice Ai2 ni2 ci2,.int .i64 p.sm,.int .i64 p.mo] 33)=q:=⟨_,rfl⟩
  have hAl:Below y.heap.size y a2:=by rw[←ha];exact (Below.refl _ _).alloc (Nat.le_refl _) _
  have HS2:=hide (show a2.heap[y.heap.size]?=some (.cells #[.int .i64 p.st,.slice Av2 nv2 cv2,.slice Ac2 nc2 cc2,.slice Ai2 ni2 ci2,.int .i64 p.sm,.int .i64 p.mo] 33) by rw[←ha];exact heap_alloc_last _ _)
  have sa2:y.heap.size<a2.heap.size:=by rw[←ha];simp
  rw[ha]
  have HI2:=hide (hi2.next hAl)
  have KB:=hide (KY.out.trans (hAl.mono KY.out.size))
  obtain⟨T2,hT⟩:∃q,y.heap.size=q:=⟨_,rfl⟩
  have HAB:Hid (Below a1.heap.size a1 a2):=hide (hbx.trans (hAl.mono hbx.size))
  rw[hT] at HS2 sa2 ⊢
  clear ha hAl hi2 KY syy hT hbx
  have hT2:T1<a2.heap.size:=by have:=HAB.out.size;omega
  obtain⟨x0,x1,x2,x3,x4,x5⟩:=zr6 ((HAB.out.block _ sa1).trans HS1.out)
  obtain⟨y0,y1,y2,y3,y4,y5⟩:=zr6 HS2.out
  have hc1:=qrsame_any a2 p Av1 Ac1 Ai1 nv1 nc1 ni1 cv1 cc1 ci1 HL1.out (HI1.out.next HAB.out) p Av2 Ac2 Ai2 nv2 nc2 ni2 cv2 cc2 ci2 HL2.out HI2.out (by omega) (by omega) (by omega)
  rw[sameV_rfl] at hc1
  have HC1:=hide hc1
  clear hc1
  go_wp2_with fail
  refine HC1.out.mono ?_
  rintro e n1 ⟨rfl,hn⟩
  have N1:=hide hn
  have sn1:a2.heap.size≤n1.heap.size:=hn.size
  clear hn x0 y0 x1 y1 x2 y2 x3 y3 x4 y4 x5 y5
  have KN:=hide (KB.out.trans (N1.out.mono KB.out.size))
  go_wp2_with fail
  refine (works_any _).mono ?_
  rintro e zz ⟨rfl,hzz⟩
  have HZ:=hide (HU.out.1.trans ((KN.out.trans (hzz.mono KN.out.size)).mono (by omega)))
  clear hzz
  go_wp2
  go_ret
  exact⟨rfl,HZ.out⟩
 have hq1':12<kk:=by omega
 by_cases hq2:kk≤2000
 ·have HV:=hide hv
  have hlq:=lightq_any u V A es L c HL.out (by omega) ((HE.out.below HU.out.1 (Nat.le_refl _)).more HU.out.1.size)
  rw[hv] at hlq
  have HLQ:=hide hlq
  clear hlq
  clear hv
  obtain⟨c0,c1⟩:=zr2 ((K0.out.block _ hu0).trans HU.out.2.2.1)
  obtain⟨d0,d1,d2,d3,d4⟩:=zr5 ((K0.out.block _ hu1).trans HU.out.2.2.2)
  have hz0:w.heap.size<u.heap.size:=by have:=K0.out.size;omega
  have hz1:w.heap.size+1<u.heap.size:=by have:=K0.out.size;omega
  go_enter Tryz.func3,Tryz.ntmps3
  go_upto_region 1 with fail
  rw[HUe.out]
  go_wp2_with fail
  refine HLQ.out.mono ?_
  rintro e v1 ⟨rfl,hb⟩
  have K1:Hid (Below u.heap.size u v1):=hide hb
  have sv1:u.heap.size≤v1.heap.size:=hb.size
  clear hb
  clear c0 c1 d0 d1 d2 d3 d4 hz0 hz1
  go_wp2_with fail
  refine (works_any _).mono ?_
  rintro e zz ⟨rfl,hzz⟩
  have HZ:=hide (HU.out.1.trans ((K1.out.trans (hzz.mono K1.out.size)).mono (by omega)))
  clear hzz
  go_wp2
  go_ret
  exact⟨rfl,HZ.out⟩
 have HV:=hide hv
 have hlq:=lightq_any u V A es L c HL.out (by omega) ((HE.out.below HU.out.1 (Nat.le_refl _)).more HU.out.1.size)
 rw[hv] at hlq
 have HLQ:=hide hlq
 clear hlq
 have hL8:L≤80:=by have:=lit12_le hv;have:=HL.out;omega
 clear hv
 obtain⟨E,hEe⟩:∃q,(atE (acheckF k j1 j2 j3 j4 V es) kk)=q:=⟨_,rfl⟩
 obtain⟨s,hse⟩:∃q,(atV k j2 j3 es V.toNat kk.toNat)=q:=⟨_,rfl⟩
 obtain⟨Vn,hVn⟩:∃q,V.toNat=q:=⟨_,rfl⟩
 have HOK:Hid (E=0→OkS Vn s∧Vn≤512):=hide (fun h0=>by
  have hch:acheckF k j1 j2 j3 j4 V es=0:=by rw[←hEe,atE] at h0;split at h0 <;> simp_all
  have hok:=acheck_ok hch
  rw[←hse,←hVn]
  exact⟨atV_ok (by omega) hok.1.2.2 _,by omega⟩)
 have HA:=hide (fun (x:World) (hx:Below u.heap.size u x)=>qat_any x V A es L c HL.out (by omega) ((HE.out.below (HU.out.1.trans (hx.mono (by omega))) (Nat.le_refl _)).more (HU.out.1.trans (hx.mono (by omega))).size) k j1 j2 j3 j4 kk (fun _=>hL8))
 have HD:=hide (fun (x:World) (hx:Below u.heap.size u x)=>qrat_any x V A es L c HL.out (by omega) ((HE.out.below (HU.out.1.trans (hx.mono (by omega))) (Nat.le_refl _)).more (HU.out.1.trans (hx.mono (by omega))).size) k j1 j2 j3 j4 kk (fun _=>hL8))
 rw[hse,hEe,hVn] at HA HD
 obtain⟨p,hp⟩:∃q,resV E s=q:=⟨_,rfl⟩
 clear hEe hse hVn
 obtain⟨c0,c1⟩:=zr2 ((K0.out.block _ hu0).trans HU.out.2.2.1)
 obtain⟨d0,d1,d2,d3,d4⟩:=zr5 ((K0.out.block _ hu1).trans HU.out.2.2.2)
 have hz0:w.heap.size<u.heap.size:=by have:=K0.out.size;omega
 have hz1:w.heap.size+1<u.heap.size:=by have:=K0.out.size;omega
 go_enter Tryz.func3,Tryz.ntmps3
 go_upto_region 1 with fail
 rw[HUe.out]
 go_wp2_with fail
 refine HLQ.out.mono ?_
 rintro e v1 ⟨rfl,hb⟩
 have K1:Hid (Below u.heap.size u v1):=hide hb
 have sv1:u.heap.size≤v1.heap.size:=hb.size
 clear hb
 clear c0 c1 d0 d1 d2 d3 d4 hz0 hz1
 obtain⟨c0,c1⟩:=zr2 ((K1.out.block _ hu0).trans HU.out.2.2.1)
 obtain⟨d0,d1,d2,d3,d4⟩:=zr5 ((K1.out.block _ hu1).trans HU.out.2.2.2)
 have hz0:w.heap.size<v1.heap.size:=by have:=K1.out.size;omega
 have hz1:w.heap.size+1<v1.heap.size:=by have:=K1.out.size;omega
 go_wp2_with fail
 refine (HA.out v1 K1.out).mono ?_
 intro e y hpost
 obtain⟨Av1,Ac1,Ai1,nv1,nc1,ni1,cv1,cc1,ci1,he,hl1,hi1,hb,m11,m21,m31⟩:=hpost.val HOK.out
 rw[hp] at he hl1 hi1
 subst he
 have HL1:=hide hl1
 have KY:=hide (K1.out.trans (hb.mono K1.out.size))
 have syy:=KY.out.size
 clear c0 c1 d0 d1 d2 d3 d4 hz0 hz1
 clear hpost hb hl1
 go_upto_region 4 with fail
 obtain⟨a1,ha⟩:∃q,y.alloc (.cells #[.int .i64 p.st,.slice Av1 nv1 cv1,.slice Ac1 nc1 cc1,.slice Ai1 ni1 ci1,.int .i64 p.sm,.int .i64 p.mo] 33)=q:=⟨_,rfl⟩
 have hAl:Below y.heap.size y a1:=by rw[←ha];exact (Below.refl _ _).alloc (Nat.le_refl _) _
 have HS1:=hide (show a1.heap[y.heap.size]?=some (.cells #[.int .i64 p.st,.slice Av1 nv1 cv1,.slice Ac1 nc1 cc1,.slice Ai1 ni1 ci1,.int .i64 p.sm,.int .i64 p.mo] 33) by rw[←ha];exact heap_alloc_last _ _)
 have sa1:y.heap.size<a1.heap.size:=by rw[←ha];simp
 rw[ha]
 have HI1:=hide (hi1.next hAl)
 have KA:=hide (KY.out.trans (hAl.mono KY.out.size))
 obtain⟨T1,hT⟩:∃q,y.heap.size=q:=⟨_,rfl⟩
 rw[hT] at HS1 sa1 ⊢
 clear ha hAl hi1 KY syy hT
 obtain⟨c0,c1⟩:=zr2 ((KA.out.block _ hu0).trans HU.out.2.2.1)
 obtain⟨d0,d1,d2,d3,d4⟩:=zr5 ((KA.out.block _ hu1).trans HU.out.2.2.2)
 have hz0:w.heap.size<a1.heap.size:=by have:=KA.out.size;omega
 have hz1:w.heap.size+1<a1.heap.size:=by have:=KA.out.size;omega
 go_wp2_with fail
 refine (HD.out a1 KA.out).mono ?_
 intro e y hpost
 obtain⟨Av2,Ac2,Ai2,nv2,nc2,ni2,cv2,cc2,ci2,he,hl2,hi2,hbx,m12,m22,m32⟩:=hpost.val HOK.out
 rw[hp] at he hl2 hi2
 subst he
 have HL2:=hide hl2
 have KY:=hide (KA.out.trans (hbx.mono KA.out.size))
 have syy:=KY.out.size
 clear c0 c1 d0 d1 d2 d3 d4 hz0 hz1
 clear hpost hl2
 go_upto_region 5 with fail
 obtain⟨a2,ha⟩:∃q,y.alloc (.cells #[.int .i64 p.st,.slice Av2 nv2 cv2,.slice Ac2 nc2 cc2,.slice Ai2 ni2 ci2,.int .i64 p.sm,.int .i64 p.mo] 33)=q:=⟨_,rfl⟩
 have hAl:Below y.heap.size y a2:=by rw[←ha];exact (Below.refl _ _).alloc (Nat.le_refl _) _
 have HS2:=hide (show a2.heap[y.heap.size]?=some (.cells #[.int .i64 p.st,.slice Av2 nv2 cv2,.slice Ac2 nc2 cc2,.slice Ai2 ni2 ci2,.int .i64 p.sm,.int .i64 p.mo] 33) by rw[←ha];exact heap_alloc_last _ _)
 have sa2:y.heap.size<a2.heap.size:=by rw[←ha];simp
 rw[ha]
 have HI2:=hide (hi2.next hAl)
 have KB:=hide (KY.out.trans (hAl.mono KY.out.size))
 obtain⟨T2,hT⟩:∃q,y.heap.size=q:=⟨_,rfl⟩
 have HAB:Hid (Below a1.heap.size a1 a2):=hide (hbx.trans (hAl.mono hbx.size))
 rw[hT] at HS2 sa2 ⊢
 clear ha hAl hi2 KY syy hT hbx
 have hT2:T1<a2.heap.size:=by have:=HAB.out.size;omega
 obtain⟨x0,x1,x2,x3,x4,x5⟩:=zr6 ((HAB.out.block _ sa1).trans HS1.out)
 obtain⟨y0,y1,y2,y3,y4,y5⟩:=zr6 HS2.out
 have hc1:=qrsame_any a2 p Av1 Ac1 Ai1 nv1 nc1 ni1 cv1 cc1 ci1 HL1.out (HI1.out.next HAB.out) p Av2 Ac2 Ai2 nv2 nc2 ni2 cv2 cc2 ci2 HL2.out HI2.out (by omega) (by omega) (by omega)
 rw[sameV_rfl] at hc1
 have HC1:=hide hc1
 clear hc1
 go_wp2_with fail
 refine HC1.out.mono ?_
 rintro e n1 ⟨rfl,hn⟩
 have N1:=hide hn
 have sn1:a2.heap.size≤n1.heap.size:=hn.size
 clear hn x0 y0 x1 y1 x2 y2 x3 y3 x4 y4 x5 y5
 have KN:=hide (KB.out.trans (N1.out.mono KB.out.size))
 go_wp2_with fail
 refine (works_any _).mono ?_
 rintro e zz ⟨rfl,hzz⟩
 have HZ:=hide (HU.out.1.trans ((KN.out.trans (hzz.mono KN.out.size)).mono (by omega)))
 clear hzz
 go_wp2
 go_ret
 exact⟨rfl,HZ.out⟩
attribute [local go_sem] Oper.semAt_some
theorem seqRun_walk (w:World) (V:Int) (A:Option Addr) (es:List Ed) (c:Nat) (hV1:-9223372036854775808≤V) (hV2:V≤9223372036854775807) (hE:Eds w w.heap.size A es) (hl:es.length≤c) (hc:c≤9223372036854775807) (hB:∀e∈es,edB e) (k j1 j2 j3 j4:Int) (hk:0≤k∧k≤255) (hj1:i64B j1) (hj2:i64B j2) (hj3:i64B j3) (hj4:i64B j4) :
  Calls Tryz.prog 6 #[.agg #[.int .i64 V,.slice A es.length c],.agg #[.int .u8 k,.int .i64 j1,.int .i64 j2,.int .i64 j3,.int .i64 j4]] w fun e w'=>e = .returned (.bool true)∧Below w.heap.size w w':=by
 have HE:=hide hE
 obtain⟨L,hL⟩:∃q,es.length=q:=⟨_,rfl⟩
 rw[hL] at hl ⊢
 have HL:=hide hL
 clear hL hE hB
 obtain⟨u,hu⟩:∃u,(w.alloc (.cells #[.int .i64 V,.slice A L c] 24)).alloc (.cells #[.int .u8 k,.int .i64 j1,.int .i64 j2,.int .i64 j3,.int .i64 j4] 26)=u:=⟨_,rfl⟩
 have HU:=hide (allocs2 hu)
 have HUe:=hide hu
 clear hu
 have hzu:u.heap.size=w.heap.size+2:=HU.out.2.1
 have hu0:w.heap.size<u.heap.size:=by omega
 have hu1:w.heap.size+1<u.heap.size:=by omega
 have K0:=hide (Below.refl u.heap.size u)
 rcases hv:lit12 V es with _ | _
 ·have HV:=hide hv
  have hlq:=lightq_any u V A es L c HL.out (by omega) ((HE.out.below HU.out.1 (Nat.le_refl _)).more HU.out.1.size)
  rw[hv] at hlq
  have HLQ:=hide hlq
  clear hlq
  clear hv
  obtain⟨c0,c1⟩:=zr2 ((K0.out.block _ hu0).trans HU.out.2.2.1)
  obtain⟨d0,d1,d2,d3,d4⟩:=zr5 ((K0.out.block _ hu1).trans HU.out.2.2.2)
  have hz0:w.heap.size<u.heap.size:=by have:=K0.out.size;omega
  have hz1:w.heap.size+1<u.heap.size:=by have:=K0.out.size;omega
  go_enter Tryz.func6,Tryz.ntmps6
  go_upto_region 1 with fail
  rw[HUe.out]
  go_wp2_with fail
  refine HLQ.out.mono ?_
  rintro e v1 ⟨rfl,hb⟩
  have K1:Hid (Below u.heap.size u v1):=hide hb
  have sv1:u.heap.size≤v1.heap.size:=hb.size
  clear hb
  clear c0 c1 d0 d1 d2 d3 d4 hz0 hz1
  obtain⟨c0,c1⟩:=zr2 ((K1.out.block _ hu0).trans HU.out.2.2.1)
  obtain⟨d0,d1,d2,d3,d4⟩:=zr5 ((K1.out.block _ hu1).trans HU.out.2.2.2)
  have hz0:w.heap.size<v1.heap.size:=by have:=K1.out.size;omega
  have hz1:w.heap.size+1<v1.heap.size:=by have:=K1.out.size;omega
  go_wp2_with fail
  refine (works_any _).mono ?_
  rintro e zz ⟨rfl,hzz⟩
  have HZ:=hide (HU.out.1.trans ((K1.out.trans (hzz.mono K1.out.size)).mono (by omega)))
  clear hzz
  go_wp2
  go_ret
  exact⟨rfl,HZ.out⟩
 by_cases hq1:j1≤40
 ·have hq1':¬(40<j1):=by omega
  have HV:=hide hv
  have hlq:=lightq_any u V A es L c HL.out (by omega) ((HE.out.below HU.out.1 (Nat.le_refl _)).more HU.out.1.size)
  rw[hv] at hlq
  have HLQ:=hide hlq
  clear hlq
  have hL8:L≤80:=by have:=lit12_le hv;have:=HL.out;omega
  clear hv
  obtain⟨E,hEe⟩:∃q,(acheckF k j1 j2 j3 j4 V es)=q:=⟨_,rfl⟩
  obtain⟨s,hse⟩:∃q,(atV k j2 j3 es V.toNat (runN k j1 j2 j3 j4 es V.toNat))=q:=⟨_,rfl⟩
  obtain⟨Vn,hVn⟩:∃q,V.toNat=q:=⟨_,rfl⟩
  have HOK:Hid (E=0→OkS Vn s∧Vn≤512):=hide (fun h0=>by
   have hch:acheckF k j1 j2 j3 j4 V es=0:=by rw[hEe];exact h0
   have hok:=acheck_ok hch
   rw[←hse,←hVn]
   exact⟨atV_ok (by omega) hok.1.2.2 _,by omega⟩)
  have HA:=hide (fun (x:World) (hx:Below u.heap.size u x)=>qrun_any x V A es L c HL.out (by omega) ((HE.out.below (HU.out.1.trans (hx.mono (by omega))) (Nat.le_refl _)).more (HU.out.1.trans (hx.mono (by omega))).size) k j1 j2 j3 j4 (fun _=>hL8))
  have HD:=hide (fun (x:World) (hx:Below u.heap.size u x)=>qrrun_any x V A es L c HL.out (by omega) ((HE.out.below (HU.out.1.trans (hx.mono (by omega))) (Nat.le_refl _)).more (HU.out.1.trans (hx.mono (by omega))).size) k j1 j2 j3 j4 (fun _=>hL8))
  rw[hse,hEe,hVn] at HA HD
  obtain⟨p,hp⟩:∃q,resV E s=q:=⟨_,rfl⟩
  clear hEe hse hVn
  obtain⟨c0,c1⟩:=zr2 ((K0.out.block _ hu0).trans HU.out.2.2.1)
  obtain⟨d0,d1,d2,d3,d4⟩:=zr5 ((K0.out.block _ hu1).trans HU.out.2.2.2)
  have hz0:w.heap.size<u.heap.size:=by have:=K0.out.size;omega
  have hz1:w.heap.size+1<u.heap.size:=by have:=K0.out.size;omega
  go_enter Tryz.func6,Tryz.ntmps6
  go_upto_region 1 with fail
  rw[HUe.out]
  go_wp2_with fail
  refine HLQ.out.mono ?_
  rintro e v1 ⟨rfl,hb⟩
  have K1:Hid (Below u.heap.size u v1):=hide hb
  have sv1:u.heap.size≤v1.heap.size:=hb.size
  clear hb
  clear c0 c1 d0 d1 d2 d3 d4 hz0 hz1
  obtain⟨c0,c1⟩:=zr2 ((K1.out.block _ hu0).trans HU.out.2.2.1)
  obtain⟨d0,d1,d2,d3,d4⟩:=zr5 ((K1.out.block _ hu1).trans HU.out.2.2.2)
  have hz0:w.heap.size<v1.heap.size:=by have:=K1.out.size;omega
  have hz1:w.heap.size+1<v1.heap.size:=by have:=K1.out.size;omega
  go_wp2_with fail
  refine (HA.out v1 K1.out).mono ?_
  intro e y hpost
  obtain⟨Av1,Ac1,Ai1,nv1,nc1,ni1,cv1,cc1,ci1,he,hl1,hi1,hb,m11,m21,m31⟩:=hpost.val HOK.out
  rw[hp] at he hl1 hi1
  subst he
  have HL1:=hide hl1
  have KY:=hide (K1.out.trans (hb.mono K1.out.size))
  have syy:=KY.out.size
  clear c0 c1 d0 d1 d2 d3 d4 hz0 hz1
  clear hpost hb hl1
  go_upto_region 4 with fail
  obtain⟨a1,ha⟩:∃q,y.alloc (.cells #[.int .i64 p.st,.slice Av1 nv1 cv1,.slice Ac1 nc1 cc1,.slice Ai1 ni1 ci1,.int .i64 p.sm,.int .i64 p.mo] 33)=q:=⟨_,rfl⟩
  have hAl:Below y.heap.size y a1:=by rw[←ha];exact (Below.refl _ _).alloc (Nat.le_refl _) _
  have HS1:=hide (show a1.heap[y.heap.size]?=some (.cells #[.int .i64 p.st,.slice Av1 nv1 cv1,.slice Ac1 nc1 cc1,.slice Ai1 ni1 ci1,.int .i64 p.sm,.int .i64 p.mo] 33) by rw[←ha];exact heap_alloc_last _ _)
  have sa1:y.heap.size<a1.heap.size:=by rw[←ha];simp
  rw[ha]
  have HI1:=hide (hi1.next hAl)
  have KA:=hide (KY.out.trans (hAl.mono KY.out.size))
  obtain⟨T1,hT⟩:∃q,y.heap.size=q:=⟨_,rfl⟩
  rw[hT] at HS1 sa1 ⊢
  clear ha hAl hi1 KY syy hT
  obtain⟨c0,c1⟩:=zr2 ((KA.out.block _ hu0).trans HU.out.2.2.1)
  obtain⟨d0,d1,d2,d3,d4⟩:=zr5 ((KA.out.block _ hu1).trans HU.out.2.2.2)
  have hz0:w.heap.size<a1.heap.size:=by have:=KA.out.size;omega
  have hz1:w.heap.size+1<a1.heap.size:=by have:=KA.out.size;omega
  go_wp2_with fail
  refine (HD.out a1 KA.out).mono ?_
  intro e y hpost
  obtain⟨Av2,Ac2,Ai2,nv2,nc2,ni2,cv2,cc2,ci2,he,hl2,hi2,hbx,m12,m22,m32⟩:=hpost.val HOK.out
  rw[hp] at he hl2 hi2
  subst he
  have HL2:=hide hl2
  have KY:=hide (KA.out.trans (hbx.mono KA.out.size))
  have syy:=KY.out.size
  clear c0 c1 d0 d1 d2 d3 d4 hz0 hz1
  clear hpost hl2
  go_upto_region 5 with fail
  obtain⟨a2,ha⟩:∃q,y.alloc (.cells #[.int .i64 p.st,.slice Av2 nv2 cv2,.slice Ac2 nc2 cc2,.slice Ai2 ni2 ci2,.int .i64 p.sm,.int .i64 p.mo] 33)=q:=⟨_,rfl⟩
  have hAl:Below y.heap.size y a2:=by rw[←ha];exact (Below.refl _ _).alloc (Nat.le_refl _) _
  have HS2:=hide (show a2.heap[y.heap.size]?=some (.cells #[.int .i64 p.st,.slice Av2 nv2 cv2,.slice Ac2 nc2 cc2,.slice Ai2 ni2 ci2,.int .i64 p.sm,.int .i64 p.mo] 33) by rw[←ha];exact heap_alloc_last _ _)
  have sa2:y.heap.size<a2.heap.size:=by rw[←ha];simp
  rw[ha]
  have HI2:=hide (hi2.next hAl)
  have KB:=hide (KY.out.trans (hAl.mono KY.out.size))
  obtain⟨T2,hT⟩:∃q,y.heap.size=q:=⟨_,rfl⟩
  have HAB:Hid (Below a1.heap.size a1 a2):=hide (hbx.trans (hAl.mono hbx.size))
  rw[hT] at HS2 sa2 ⊢
  clear ha hAl hi2 KY syy hT hbx
  have hT2:T1<a2.heap.size:=by have:=HAB.out.size;omega
  obtain⟨x0,x1,x2,x3,x4,x5⟩:=zr6 ((HAB.out.block _ sa1).trans HS1.out)
  obtain⟨y0,y1,y2,y3,y4,y5⟩:=zr6 HS2.out
  have hc1:=qrsame_any a2 p Av1 Ac1 Ai1 nv1 nc1 ni1 cv1 cc1 ci1 HL1.out (HI1.out.next HAB.out) p Av2 Ac2 Ai2 nv2 nc2 ni2 cv2 cc2 ci2 HL2.out HI2.out (by omega) (by omega) (by omega)
  rw[sameV_rfl] at hc1
  have HC1:=hide hc1
  clear hc1
  go_wp2_with fail
  refine HC1.out.mono ?_
  rintro e n1 ⟨rfl,hn⟩
  have N1:=hide hn
  have sn1:a2.heap.size≤n1.heap.size:=hn.size
  clear hn x0 y0 x1 y1 x2 y2 x3 y3 x4 y4 x5 y5
  have KN:=hide (KB.out.trans (N1.out.mono KB.out.size))
  obtain⟨x0,x1,x2,x3,x4,x5⟩:=zr6 ((N1.out.block _ hT2).trans ((HAB.out.block _ sa1).trans HS1.out))
  obtain⟨y0,y1,y2,y3,y4,y5⟩:=zr6 ((N1.out.block _ sa2).trans HS2.out)
  have hT3:T1<n1.heap.size:=by omega
  have hT4:T2<n1.heap.size:=by omega
  have hc2:=qsame_any n1 p Av1 Ac1 Ai1 nv1 nc1 ni1 cv1 cc1 ci1 HL1.out ((HI1.out.next HAB.out).next N1.out) p Av2 Ac2 Ai2 nv2 nc2 ni2 cv2 cc2 ci2 HL2.out (HI2.out.next N1.out) (by omega) (by omega) (by omega)
  rw[sameV_rfl] at hc2
  have HC2:=hide hc2
  clear hc2
  go_wp2_with fail
  refine HC2.out.mono ?_
  rintro e n2 ⟨rfl,hn⟩
  have KM:=hide (KN.out.trans (hn.mono KN.out.size))
  clear hn x0 y0 x1 y1 x2 y2 x3 y3 x4 y4 x5 y5
  go_wp2_with fail
  refine (works_any _).mono ?_
  rintro e zz ⟨rfl,hzz⟩
  have HZ:=hide (HU.out.1.trans ((KM.out.trans (hzz.mono KM.out.size)).mono (by omega)))
  clear hzz
  go_wp2
  go_ret
  exact⟨rfl,HZ.out⟩
 have hq1':40<j1:=by omega
 by_cases hq2:j1≤2000
 ·have HV:=hide hv
  have hlq:=lightq_any u V A es L c HL.out (by omega) ((HE.out.below HU.out.1 (Nat.le_refl _)).more HU.out.1.size)
  rw[hv] at hlq
  have HLQ:=hide hlq
  clear hlq
  clear hv
  obtain⟨c0,c1⟩:=zr2 ((K0.out.block _ hu0).trans HU.out.2.2.1)
  obtain⟨d0,d1,d2,d3,d4⟩:=zr5 ((K0.out.block _ hu1).trans HU.out.2.2.2)
  have hz0:w.heap.size<u.heap.size:=by have:=K0.out.size;omega
  have hz1:w.heap.size+1<u.heap.size:=by have:=K0.out.size;omega
  go_enter Tryz.func6,Tryz.ntmps6
  go_upto_region 1 with fail
  rw[HUe.out]
  go_wp2_with fail
  refine HLQ.out.mono ?_
  rintro e v1 ⟨rfl,hb⟩
  have K1:Hid (Below u.heap.size u v1):=hide hb
  have sv1:u.heap.size≤v1.heap.size:=hb.size
  clear hb
  clear c0 c1 d0 d1 d2 d3 d4 hz0 hz1
  obtain⟨c0,c1⟩:=zr2 ((K1.out.block _ hu0).trans HU.out.2.2.1)
  obtain⟨d0,d1,d2,d3,d4⟩:=zr5 ((K1.out.block _ hu1).trans HU.out.2.2.2)
  have hz0:w.heap.size<v1.heap.size:=by have:=K1.out.size;omega
  have hz1:w.heap.size+1<v1.heap.size:=by have:=K1.out.size;omega
  go_wp2_with fail
  refine (works_any _).mono ?_
  rintro e zz ⟨rfl,hzz⟩
  have HZ:=hide (HU.out.1.trans ((K1.out.trans (hzz.mono K1.out.size)).mono (by omega)))
  clear hzz
  go_wp2
  go_ret
  exact⟨rfl,HZ.out⟩
 have HV:=hide hv
 have hlq:=lightq_any u V A es L c HL.out (by omega) ((HE.out.below HU.out.1 (Nat.le_refl _)).more HU.out.1.size)
 rw[hv] at hlq
 have HLQ:=hide hlq
 clear hlq
 have hL8:L≤80:=by have:=lit12_le hv;have:=HL.out;omega
 clear hv
 obtain⟨E,hEe⟩:∃q,(acheckF k j1 j2 j3 j4 V es)=q:=⟨_,rfl⟩
 obtain⟨s,hse⟩:∃q,(atV k j2 j3 es V.toNat (runN k j1 j2 j3 j4 es V.toNat))=q:=⟨_,rfl⟩
 obtain⟨Vn,hVn⟩:∃q,V.toNat=q:=⟨_,rfl⟩
 have HOK:Hid (E=0→OkS Vn s∧Vn≤512):=hide (fun h0=>by
  have hch:acheckF k j1 j2 j3 j4 V es=0:=by rw[hEe];exact h0
  have hok:=acheck_ok hch
  rw[←hse,←hVn]
  exact⟨atV_ok (by omega) hok.1.2.2 _,by omega⟩)
 have HA:=hide (fun (x:World) (hx:Below u.heap.size u x)=>qrun_any x V A es L c HL.out (by omega) ((HE.out.below (HU.out.1.trans (hx.mono (by omega))) (Nat.le_refl _)).more (HU.out.1.trans (hx.mono (by omega))).size) k j1 j2 j3 j4 (fun _=>hL8))
 have HD:=hide (fun (x:World) (hx:Below u.heap.size u x)=>qrrun_any x V A es L c HL.out (by omega) ((HE.out.below (HU.out.1.trans (hx.mono (by omega))) (Nat.le_refl _)).more (HU.out.1.trans (hx.mono (by omega))).size) k j1 j2 j3 j4 (fun _=>hL8))
 rw[hse,hEe,hVn] at HA HD
 obtain⟨p,hp⟩:∃q,resV E s=q:=⟨_,rfl⟩
 clear hEe hse hVn
 obtain⟨c0,c1⟩:=zr2 ((K0.out.block _ hu0).trans HU.out.2.2.1)
 obtain⟨d0,d1,d2,d3,d4⟩:=zr5 ((K0.out.block _ hu1).trans HU.out.2.2.2)
 have hz0:w.heap.size<u.heap.size:=by have:=K0.out.size;omega
 have hz1:w.heap.size+1<u.heap.size:=by have:=K0.out.size;omega
 go_enter Tryz.func6,Tryz.ntmps6
 go_upto_region 1 with fail
 rw[HUe.out]
 go_wp2_with fail
 refine HLQ.out.mono ?_
 rintro e v1 ⟨rfl,hb⟩
 have K1:Hid (Below u.heap.size u v1):=hide hb
 have sv1:u.heap.size≤v1.heap.size:=hb.size
 clear hb
 clear c0 c1 d0 d1 d2 d3 d4 hz0 hz1
 obtain⟨c0,c1⟩:=zr2 ((K1.out.block _ hu0).trans HU.out.2.2.1)
 obtain⟨d0,d1,d2,d3,d4⟩:=zr5 ((K1.out.block _ hu1).trans HU.out.2.2.2)
 have hz0:w.heap.size<v1.heap.size:=by have:=K1.out.size;omega
 have hz1:w.heap.size+1<v1.heap.size:=by have:=K1.out.size;omega
 go_wp2_with fail
 refine (HA.out v1 K1.out).mono ?_
 intro e y hpost
 obtain⟨Av1,Ac1,Ai1,nv1,nc1,ni1,cv1,cc1,ci1,he,hl1,hi1,hb,m11,m21,m31⟩:=hpost.val HOK.out
 rw[hp] at he hl1 hi1
 subst he
 have HL1:=hide hl1
 have KY:=hide (K1.out.trans (hb.mono K1.out.size))
 have syy:=KY.out.size
 clear c0 c1 d0 d1 d2 d3 d4 hz0 hz1
 clear hpost hb hl1
 go_upto_region 4 with fail
 obtain⟨a1,ha⟩:∃q,y.alloc (.cells #[.int .i64 p.st,.slice Av1 nv1 cv1,.slice Ac1 nc1 cc1,.slice Ai1 ni1 ci1,.int .i64 p.sm,.int .i64 p.mo] 33)=q:=⟨_,rfl⟩
 have hAl:Below y.heap.size y a1:=by rw[←ha];exact (Below.refl _ _).alloc (Nat.le_refl _) _
 have HS1:=hide (show a1.heap[y.heap.size]?=some (.cells #[.int .i64 p.st,.slice Av1 nv1 cv1,.slice Ac1 nc1 cc1,.slice Ai1 ni1 ci1,.int .i64 p.sm,.int .i64 p.mo] 33) by rw[←ha];exact heap_alloc_last _ _)
 have sa1:y.heap.size<a1.heap.size:=by rw[←ha];simp
 rw[ha]
 have HI1:=hide (hi1.next hAl)
 have KA:=hide (KY.out.trans (hAl.mono KY.out.size))
 obtain⟨T1,hT⟩:∃q,y.heap.size=q:=⟨_,rfl⟩
 rw[hT] at HS1 sa1 ⊢
 clear ha hAl hi1 KY syy hT
 obtain⟨c0,c1⟩:=zr2 ((KA.out.block _ hu0).trans HU.out.2.2.1)
 obtain⟨d0,d1,d2,d3,d4⟩:=zr5 ((KA.out.block _ hu1).trans HU.out.2.2.2)
 have hz0:w.heap.size<a1.heap.size:=by have:=KA.out.size;omega
 have hz1:w.heap.size+1<a1.heap.size:=by have:=KA.out.size;omega
 go_wp2_with fail
 refine (HD.out a1 KA.out).mono ?_
 intro e y hpost
 obtain⟨Av2,Ac2,Ai2,nv2,nc2,ni2,cv2,cc2,ci2,he,hl2,hi2,hbx,m12,m22,m32⟩:=hpost.val HOK.out
 rw[hp] at he hl2 hi2
 subst he
 have HL2:=hide hl2
 have KY:=hide (KA.out.trans (hbx.mono KA.out.size))
 have syy:=KY.out.size
 clear c0 c1 d0 d1 d2 d3 d4 hz0 hz1
 clear hpost hl2
 go_upto_region 5 with fail
 obtain⟨a2,ha⟩:∃q,y.alloc (.cells #[.int .i64 p.st,.slice Av2 nv2 cv2,.slice Ac2 nc2 cc2,.slice Ai2 ni2 ci2,.int .i64 p.sm,.int .i64 p.mo] 33)=q:=⟨_,rfl⟩
 have hAl:Below y.heap.size y a2:=by rw[←ha];exact (Below.refl _ _).alloc (Nat.le_refl _) _
 have HS2:=hide (show a2.heap[y.heap.size]?=some (.cells #[.int .i64 p.st,.slice Av2 nv2 cv2,.slice Ac2 nc2 cc2,.slice Ai2 ni2 ci2,.int .i64 p.sm,.int .i64 p.mo] 33) by rw[←ha];exact heap_alloc_last _ _)
 have sa2:y.heap.size<a2.heap.size:=by rw[←ha];simp
 rw[ha]
 have HI2:=hide (hi2.next hAl)
 have KB:=hide (KY.out.trans (hAl.mono KY.out.size))
 obtain⟨T2,hT⟩:∃q,y.heap.size=q:=⟨_,rfl⟩
 have HAB:Hid (Below a1.heap.size a1 a2):=hide (hbx.trans (hAl.mono hbx.size))
 rw[hT] at HS2 sa2 ⊢
 clear ha hAl hi2 KY syy hT hbx
 have hT2:T1<a2.heap.size:=by have:=HAB.out.size;omega
 obtain⟨x0,x1,x2,x3,x4,x5⟩:=zr6 ((HAB.out.block _ sa1).trans HS1.out)
 obtain⟨y0,y1,y2,y3,y4,y5⟩:=zr6 HS2.out
 have hc1:=qrsame_any a2 p Av1 Ac1 Ai1 nv1 nc1 ni1 cv1 cc1 ci1 HL1.out (HI1.out.next HAB.out) p Av2 Ac2 Ai2 nv2 nc2 ni2 cv2 cc2 ci2 HL2.out HI2.out (by omega) (by omega) (by omega)
 rw[sameV_rfl] at hc1
 have HC1:=hide hc1
 clear hc1
 go_wp2_with fail
 refine HC1.out.mono ?_
 rintro e n1 ⟨rfl,hn⟩
 have N1:=hide hn
 have sn1:a2.heap.size≤n1.heap.size:=hn.size
 clear hn x0 y0 x1 y1 x2 y2 x3 y3 x4 y4 x5 y5
 have KN:=hide (KB.out.trans (N1.out.mono KB.out.size))
 obtain⟨x0,x1,x2,x3,x4,x5⟩:=zr6 ((N1.out.block _ hT2).trans ((HAB.out.block _ sa1).trans HS1.out))
 obtain⟨y0,y1,y2,y3,y4,y5⟩:=zr6 ((N1.out.block _ sa2).trans HS2.out)
 have hT3:T1<n1.heap.size:=by omega
 have hT4:T2<n1.heap.size:=by omega
 have hc2:=qsame_any n1 p Av1 Ac1 Ai1 nv1 nc1 ni1 cv1 cc1 ci1 HL1.out ((HI1.out.next HAB.out).next N1.out) p Av2 Ac2 Ai2 nv2 nc2 ni2 cv2 cc2 ci2 HL2.out (HI2.out.next N1.out) (by omega) (by omega) (by omega)
 rw[sameV_rfl] at hc2
 have HC2:=hide hc2
 clear hc2
 go_wp2_with fail
 refine HC2.out.mono ?_
 rintro e n2 ⟨rfl,hn⟩
 have KM:=hide (KN.out.trans (hn.mono KN.out.size))
 clear hn x0 y0 x1 y1 x2 y2 x3 y3 x4 y4 x5 y5
 go_wp2_with fail
 refine (works_any _).mono ?_
 rintro e zz ⟨rfl,hzz⟩
 have HZ:=hide (HU.out.1.trans ((KM.out.trans (hzz.mono KM.out.size)).mono (by omega)))
 clear hzz
 go_wp2
 go_ret
 exact⟨rfl,HZ.out⟩
end Go.Proofs.YtpgbjabifhjogaaGreat

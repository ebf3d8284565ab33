/- Lemmas: Md2. -/
import Derived.Test.YtgbahnlgblahpaaGreatMkWw43
import Derived.Test.YtgbahnlgblahpaaGreatMkWw44
set_option linter.unusedVariables false
set_option linter.unusedSimpArgs false
set_option maxRecDepth 100000
set_option maxHeartbeats 16000000
namespace Go.Proofs.YtgbahnlgblahpaaGreat
open Go.RowKit
theorem relaxed_good {es:List Ed} {V s:Int} (hc:checkF V es=0) (h0:0≤s) (h1:s<V):Good V.toNat s (relaxedF V es s):=by
 have hw:=within_of hc
 have h1':s<(V.toNat:Int):=by omega
 obtain⟨D,hgD,hD,hmax⟩:=exists_D hw h0 h1'
 rw[←fin_relaxed hc h0 h1 hgD hD hmax]
 exact hgD
theorem dist_64 (V:Int) (es:List Ed) (s:Int):(∀x∈distL V es s,-9223372036854775808≤x∧x≤9223372036854775807)∧(distL V es s).length≤512:=by
 unfold distL
 split
 ·rename_i h
  unfold distE at h
  by_cases hc:checkF V es=0
  ·rw[if_pos hc] at h
   by_cases hs:0≤s∧s<V
   ·have hg:=relaxed_good hc hs.1 hs.2
    obtain⟨hV1,hV2,_⟩:=checkF_zero hc
    refine⟨fun x hx=>?_,by rw[hg.len];omega⟩
    obtain⟨i,hi,rfl⟩:=List.getElem_of_mem hx
    have:=hg.rng i (by rw[←hg.len];exact hi)
    rw[at_nat,List.getElem?_eq_getElem hi] at this
    unfold inf at this
    simp only[Option.getD_some] at this
    omega
   rw[if_neg hs] at h;cases h
  rw[if_neg hc] at h;exact absurd h hc
 exact⟨by simp,by simp⟩
theorem tight_dist (V:Int) (es:List Ed) (s:Int):tightF V es s (distL V es s)=decide (distE V es s=0):=by
 by_cases h:distE V es s=0
 ·rw[decide_eq_true h]
  unfold distL
  rw[if_pos h]
  unfold distE at h
  by_cases hc:checkF V es=0
  ·rw[if_pos hc] at h
   by_cases hs:0≤s∧s<V
   ·exact (tight_one V es s hc hs.1 hs.2 _).2 rfl
   rw[if_neg hs] at h;cases h
  rw[if_neg hc] at h;exact absurd h hc
 rw[decide_eq_false h]
 unfold distL
 rw[if_neg h,tight_eq]
 unfold rtightF
 rw[if_neg]
 rintro ⟨hc,h0,h1,_⟩
 apply h
 unfold distE
 rw[if_pos hc,if_pos ⟨h0,h1⟩]
theorem meaningDistances_walk (w:World) (V:Int) (A:Option Addr) (es:List Ed) (c:Nat) (hv1:-9223372036854775808≤V) (hv2:V≤9223372036854775807) (hE:Eds w w.heap.size A es) (hlc:es.length≤c) (hcm:c≤9223372036854775807) (heb:∀e∈es,edB e) (s:Int) (hs1:-9223372036854775808≤s) (hs2:s≤9223372036854775807) :
  Calls Tryz.prog 5 #[.agg #[.int .i64 V,.slice A es.length c],.int .i64 s] w fun e w'=>e = .returned (.bool true)∧Below w.heap.size w w':=by
 obtain⟨L,hL⟩:∃L,es.length=L:=⟨_,rfl⟩
 rw[hL] at hlc ⊢
 have hebw:∀e∈es,-9223372036854775808≤e.2.2∧e.2.2≤9223372036854775807:=fun e he=>by
  obtain⟨i,hi,rfl⟩:=List.getElem_of_mem he
  obtain⟨_,_,_,_,_,_,_,h1,h2⟩:=Eds.get hE (List.getElem?_eq_getElem hi)
  exact⟨h1,h2⟩
 have HEbw:=hide hebw
 obtain⟨v,hv⟩:∃v,w.alloc (.cells #[.int .i64 V,.slice A L c] 24)=v:=⟨_,rfl⟩
 have hz:v.heap.size=w.heap.size+1:=by rw[←hv];simp
 have hb:Below w.heap.size w v:=by rw[←hv];exact (Below.refl _ _).alloc (Nat.le_refl _) _
 have cg:v.heap[w.heap.size]?=some (.cells #[.int .i64 V,.slice A L c] 24):=by rw[←hv];exact heap_alloc_last w _
 obtain⟨c0,c1⟩:=zr2 cg
 have HE:Hid (Eds v v.heap.size A es):=hide ((hE.below hb (Nat.le_refl _)).more hb.size)
 have HV:=hide hv
 have HB:=hide hb
 have HL:=hide hL
 have HG:=hide cg
 have hlv:w.heap.size<v.heap.size:=by omega
 clear hv hb hz cg hE hL heb hebw
 go_enter Tryz.func5,Tryz.ntmps5
 go_wp2_with fail
 rw[HV.out]
 go_wp2_with fail
 refine (lt13_any v V A es L c HL.out HE.out (by omega)).mono ?_
 rintro e y ⟨rfl,hy⟩
 have HBy:=hide (hy)
 have HGy:=hide ((hy.block _ hlv).trans HG.out)
 have HEy:Hid (Eds y y.heap.size A es):=hide ((Eds.below HE.out hy (Nat.le_refl _)).more hy.size)
 clear hy c0 c1
 obtain⟨lb,hlb⟩:∃q,lightB V L es=q:=⟨_,rfl⟩
 rw[hlb]
 have HLb:=hide hlb
 clear hlb
 rcases lb with _ | _
 ·go_wp2_with fail
  refine (works_any y).mono ?_
  rintro e z ⟨rfl,hz⟩
  have HF:=hide (HB.out.trans ((HBy.out.trans (hz.mono HBy.out.size)).mono HB.out.size))
  clear hz
  go_wp2
  go_ret
  exact⟨rfl,HF.out⟩
 have hL100:L≤100:=by have h:=HLb.out;unfold lightB at h;simp at h;omega
 have hly:w.heap.size<y.heap.size:=by have:=HBy.out.size;omega
 obtain⟨c0,c1⟩:=zr2 HGy.out
 have hcallA:=distances_any y V A es L c s HL.out HEy.out (by omega) HEbw.out
 obtain⟨hd64,hdn⟩:=dist_64 V es s
 have htd:=tight_dist V es s
 obtain⟨ll,hll⟩:∃q,distL V es s=q:=⟨_,rfl⟩
 obtain⟨ck,hck⟩:∃q,distE V es s=q:=⟨_,rfl⟩
 obtain⟨n,hn⟩:∃q,ll.length=q:=⟨_,rfl⟩
 rw[hll] at hd64 hdn htd
 rw[hn] at hdn
 rw[hck] at htd
 unfold LPost at hcallA
 rw[hll,hck,hn] at hcallA
 have HCallA:=hide hcallA
 have HD64:=hide hd64
 have HTd:=hide htd
 have HLl:=hide hll
 have HCk:=hide hck
 have HN:=hide hn
 clear hcallA hd64 htd hll hck hn
 go_wp2_with fail
 refine HCallA.out.mono ?_
 rintro e y1 ⟨A1,d1,rfl,ho1,hz⟩
 have HBa:=hide (HBy.out.trans (hz.mono HBy.out.size))
 have HR1:=hide (Rd.of_own ho1)
 have HGa:=hide ((hz.block _ hly).trans HGy.out)
 have HEa:Hid (Eds y1 y1.heap.size A es):=hide ((Eds.below HEy.out hz (Nat.le_refl _)).more hz.size)
 have hl1:w.heap.size<y1.heap.size:=by have:=hz.size;omega
 clear hz ho1 c0 c1
 obtain⟨c0,c1⟩:=zr2 HGa.out
 have hcall:=rdistances_any y1 V A es L c s HL.out HEa.out (by omega) HEbw.out
 unfold LPost at hcall
 rw[HLl.out,HCk.out,HN.out] at hcall
 have HCall:=hide hcall
 clear hcall
 go_wp2_with fail
 refine HCall.out.mono ?_
 rintro e y2 ⟨A2,d2,rfl,ho2,hz⟩
 have HBb:=hide (HBa.out.trans (hz.mono HBa.out.size))
 have HR1b:=hide ((HR1.out.below hz).more hz.size)
 have HR2:=hide (Rd.of_own ho2)
 have HGb:=hide ((hz.block _ hl1).trans HGa.out)
 have HEb2:Hid (Eds y2 y2.heap.size A es):=hide ((Eds.below HEa.out hz (Nat.le_refl _)).more hz.size)
 have hl2:w.heap.size<y2.heap.size:=by have:=hz.size;omega
 clear hz ho2 c0 c1 HCall HR1
 go_wp2_with fail
 refine (same64_any y2 A1 A2 ll ll n n d1 d2 HN.out HN.out (by omega) HR1b.out HR2.out).mono ?_
 rintro e y3 ⟨rfl,hz⟩
 rw[show eqL ll ll=true by simp[eqL]]
 have HBc:=hide (HBb.out.trans (hz.mono HBb.out.size))
 have HR1c:=hide ((HR1b.out.below hz).more hz.size)
 have HGc:=hide ((hz.block _ hl2).trans HGb.out)
 have HEc:Hid (Eds y3 y3.heap.size A es):=hide ((Eds.below HEb2.out hz (Nat.le_refl _)).more hz.size)
 have hl3:w.heap.size<y3.heap.size:=by have:=hz.size;omega
 clear hz HR1b HR2
 obtain⟨c0,c1⟩:=zr2 HGc.out
 have hti:=tight_any y3 V A A1 es ll L c n d1 s HL.out HEc.out (by omega) HN.out HR1c.out HD64.out
 rw[HTd.out] at hti
 have HTi:=hide hti
 clear hti
 go_wp2_with fail
 refine HTi.out.mono ?_
 rintro e y4 ⟨rfl,hz⟩
 have HBd:=hide (HBc.out.trans (hz.mono HBc.out.size))
 clear hz c0 c1 HTi
 have hqq:(decide (ck=0) == (ck == 0))=true:=by by_cases h:ck=0 <;> simp[h]
 go_wp2_with fail
 refine (works_any y4).mono ?_
 rintro e y5 ⟨rfl,hz⟩
 have HF:=hide (HB.out.trans ((HBd.out.trans (hz.mono HBd.out.size)).mono HB.out.size))
 clear hz
 go_wp2
 go_ret
 exact⟨rfl,HF.out⟩
end Go.Proofs.YtgbahnlgblahpaaGreat

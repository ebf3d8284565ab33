/- Lemmas: Ml2. -/
import Derived.Test.YtgbahnlgblahpaaGreatMkWw35
import Derived.Test.YtgbahnlgblahpaaGreatMkWw42
set_option linter.unusedVariables false
set_option linter.unusedSimpArgs false
set_option maxRecDepth 100000
set_option maxHeartbeats 16000000
namespace Go.Proofs.YtgbahnlgblahpaaGreat
open Go.RowKit
theorem labI_len (es:List Ed) (M:Nat):(labI es M).length=M:=by simp[labI]
theorem labI_at (es:List Ed) {M x:Nat} (h:x<M):at_ (labI es M) (x:Int)=((labF es x:Nat):Int):=by
 rw[at_nat,labI,List.getElem?_map,List.getElem?_range h];rfl
theorem atI_at (l:List Int) (x:Nat):atI l (x:Int)=at_ l (x:Int):=by
 unfold atI at_;rfl
theorem marks_ok {es:List Ed} {M:Nat} (hw:Within es M):(marksF (labI es M)).2=true:=by
 have hk:=lab_ok hw
 have key:∀(f i:Nat) (p:Int),i+f=M→(marksG (labI es M) f i p).2=true:=by
  intro f
  induction f with
  | zero=>intro i p _;rfl
  | succ f ih=>
   intro i p hi
   have hiM:i<M:=by omega
   have h1:=hk.le i hiM
   have h2:=hk.same (hk.conn i hiM)
   rw[marksG,atI_at,labI_at es hiM,atI_at,labI_at es (show labF es i<M by omega),←h2]
   rw[if_neg (by omega)]
   exact ih (i+1) _ (by omega)
 unfold marksF
 rw[labI_len]
 exact key M 0 0 (by omega)
theorem meaningLabels_walk (w:World) (V:Int) (A:Option Addr) (es:List Ed) (c:Nat) (hv1:-9223372036854775808≤V) (hv2:V≤9223372036854775807) (hE:Eds w w.heap.size A es) (hlc:es.length≤c) (hcm:c≤9223372036854775807) (heb:∀e∈es,edB e) :
  Calls Tryz.prog 4 #[.agg #[.int .i64 V,.slice A es.length c]] w fun e w'=>e = .returned (.bool true)∧Below w.heap.size w w':=by
 obtain⟨L,hL⟩:∃L,es.length=L:=⟨_,rfl⟩
 rw[hL] at hlc ⊢
 obtain⟨v,hv⟩:∃v,w.alloc (.cells #[.int .i64 V,.slice A L c] 24)=v:=⟨_,rfl⟩
 have hz:v.heap.size=w.heap.size+1:=by rw[←hv];simp
 have hb:Below w.heap.size w v:=by rw[←hv];exact (Below.refl _ _).alloc (Nat.le_refl _) _
 have cg:v.heap[w.heap.size]?=some (.cells #[.int .i64 V,.slice A L c] 24):=by rw[←hv];exact heap_alloc_last w _
 obtain⟨c0,c1⟩:=zr2 cg
 have HE:Hid (Eds v v.heap.size A es):=hide ((hE.below hb (Nat.le_refl _)).more hb.size)
 have HV:=hide hv
 have HB:=hide hb
 have HL:=hide hL
 have HG:=hide cg
 have hlv:w.heap.size<v.heap.size:=by omega
 clear hv hb hz cg hE hL heb
 go_enter Tryz.func4,Tryz.ntmps4
 go_wp2_with fail
 rw[HV.out]
 go_wp2_with fail
 refine (lt13_any v V A es L c HL.out HE.out (by omega)).mono ?_
 rintro e y ⟨rfl,hy⟩
 have HBy:=hide (hy)
 have HGy:=hide ((hy.block _ hlv).trans HG.out)
 have HEy:Hid (Eds y y.heap.size A es):=hide ((Eds.below HE.out hy (Nat.le_refl _)).more hy.size)
 clear hy c0 c1
 obtain⟨lb,hlb⟩:∃q,lightB V L es=q:=⟨_,rfl⟩
 rw[hlb]
 have HLb:=hide hlb
 clear hlb
 rcases lb with _ | _
 ·go_wp2_with fail
  refine (works_any y).mono ?_
  rintro e z ⟨rfl,hz⟩
  have HF:=hide (HB.out.trans ((HBy.out.trans (hz.mono HBy.out.size)).mono HB.out.size))
  clear hz
  go_wp2
  go_ret
  exact⟨rfl,HF.out⟩
 have hL100:L≤100:=by have h:=HLb.out;unfold lightB at h;simp at h;omega
 have hly:w.heap.size<y.heap.size:=by have:=HBy.out.size;omega
 obtain⟨c0,c1⟩:=zr2 HGy.out
 go_wp2_with fail
 refine (labels_any y V A es L c HL.out HEy.out (by omega)).mono ?_
 rintro e y1 ⟨A1,d1,rfl,ho1,hz⟩
 have HBa:=hide (HBy.out.trans (hz.mono HBy.out.size))
 have HR1:=hide (Rd.of_own ho1)
 have HGa:=hide ((hz.block _ hly).trans HGy.out)
 have HEa:Hid (Eds y1 y1.heap.size A es):=hide ((Eds.below HEy.out hz (Nat.le_refl _)).more hz.size)
 have hl1:w.heap.size<y1.heap.size:=by have:=hz.size;omega
 clear hz ho1 c0 c1
 obtain⟨c0,c1⟩:=zr2 HGa.out
 obtain⟨ll,hll⟩:∃q,labL V es=q:=⟨_,rfl⟩
 obtain⟨ck,hck⟩:∃q,checkF V es=q:=⟨_,rfl⟩
 obtain⟨n,hn⟩:∃q,ll.length=q:=⟨_,rfl⟩
 have hn512:n≤512:=by
  rw[←hn,←hll]
  unfold labL
  split
  ·rename_i h;obtain⟨h1,h2,_⟩:=checkF_zero h;rw[labI_len];omega
  simp
 have hcall:=rlabels_any y1 V A es L c HL.out HEa.out (by omega)
 rw[hll,hck] at hcall
 unfold LPost at hcall
 rw[hn] at hcall
 have HCall:=hide hcall
 rw[hll] at HR1 ⊢
 rw[hck,hn] at ⊢
 have HLl:=hide hll
 have HCk:=hide hck
 have HN:=hide hn
 clear hll hck hn hcall
 go_wp2_with fail
 refine HCall.out.mono ?_
 rintro e y2 ⟨A2,d2,rfl,ho2,hz⟩
 have HBb:=hide (HBa.out.trans (hz.mono HBa.out.size))
 have HR1b:=hide ((HR1.out.below hz).more hz.size)
 have HR2:=hide (Rd.of_own ho2)
 have HGb:=hide ((hz.block _ hl1).trans HGa.out)
 have HEb2:Hid (Eds y2 y2.heap.size A es):=hide ((Eds.below HEa.out hz (Nat.le_refl _)).more hz.size)
 have hl2:w.heap.size<y2.heap.size:=by have:=hz.size;omega
 clear hz ho2 c0 c1 HCall HR1
 go_wp2_with fail
 refine (same64_any y2 A1 A2 ll ll n n d1 d2 HN.out HN.out (by omega) HR1b.out HR2.out).mono ?_
 rintro e y3 ⟨rfl,hz⟩
 rw[show eqL ll ll=true by simp[eqL]]
 have HBc:=hide (HBb.out.trans (hz.mono HBb.out.size))
 have HR1c:=hide ((HR1b.out.below hz).more hz.size)
 have HGc:=hide ((hz.block _ hl2).trans HGb.out)
 have HEc:Hid (Eds y3 y3.heap.size A es):=hide ((Eds.below HEb2.out hz (Nat.le_refl _)).more hz.size)
 have hl3:w.heap.size<y3.heap.size:=by have:=hz.size;omega
 clear hz HR1b HR2
 by_cases hck0:ck=0
 ·subst hck0
  obtain⟨hV1,hV2,hok⟩:=checkF_zero HCk.out
  obtain⟨M,rfl⟩:=Int.eq_ofNat_of_zero_le (show 0≤V by omega)
  have HW:Hid (Within es M):=hide (by have h:=within_of HCk.out;rwa [Int.toNat_natCast] at h)
  have hlab:ll=labI es M:=by rw[←HLl.out,labL,if_pos HCk.out,Int.toNat_natCast]
  have hnM:n=M:=by rw[←HN.out,hlab,labI_len]
  subst hnM hlab
  have c1:y3.cell? ⟨w.heap.size,1,none⟩=some (.slice A L c):=cell_of_row _ _ 1 _ _ _ HGc.out
  clear hok
  go_wp2
  clear c1
  go_loopw [7] (fun v7 wr=>∃k:Nat,k≤L∧v7 = .int .i64 (k:Int)∧Hid (Below y3.heap.size y3 wr)) (fun v7 _=>L-(intOf v7).toNat)
  case atStart=>exact⟨0,by omega,rfl,hide (Below.refl _ _)⟩
  case round=>
   obtain⟨k,hk,rfl,HBr⟩:=hrel
   have c1:wr.cell? ⟨w.heap.size,1,none⟩=some (.slice A L c):=cell_of_row _ _ 1 _ _ _ ((HBr.out.block _ hl3).trans HGc.out)
   by_cases hlt:k<L
   ·obtain⟨e,he⟩:∃e,es[k]?=some e:=⟨_,List.getElem?_eq_getElem (by rw[HL.out];exact hlt)⟩
    have hem:=List.mem_of_getElem? he
    have hfit:=HW.out e hem
    have hedge:=(lab_ok HW.out).edge e hem
    obtain⟨b0,off,rfl,hbl,d0,d1',d2',hx1,hx2⟩:=Eds.get HEc.out he
    obtain⟨e1,e2,e3⟩:=e
    dsimp only at d0 d1' d2' hfit hx1 hx2 hedge
    obtain⟨a,rfl⟩:=Int.eq_ofNat_of_zero_le hfit.1
    obtain⟨b,rfl⟩:=Int.eq_ofNat_of_zero_le hfit.2.2.1
    simp only[Int.toNat_natCast] at hedge
    have haM:a<n:=by omega
    have hbM:b<n:=by omega
    have d0:=(HBr.out.cell (p:=⟨b0,off+k*3,none⟩) hbl).trans d0
    have d1':=(HBr.out.cell (p:=⟨b0,off+k*3+1,none⟩) hbl).trans d1'
    obtain⟨g,o2,hA,hgb,hcell⟩:=HR1c.out.at_ (k:=a) (by rw[List.length_map,labI_len];exact haM)
    subst hA
    have la:wr.cell? ⟨g,o2+a,none⟩=some (.int .i64 ((labF es a:Nat):Int)):=(HBr.out.cell (p:=⟨g,o2+a,none⟩) hgb).trans (hcell a _ (by rw[List.getElem?_map,labI,List.getElem?_map,List.getElem?_range haM];rfl))
    have lb:wr.cell? ⟨g,o2+b,none⟩=some (.int .i64 ((labF es b:Nat):Int)):=(HBr.out.cell (p:=⟨g,o2+b,none⟩) hgb).trans (hcell b _ (by rw[List.getElem?_map,labI,List.getElem?_map,List.getElem?_range hbM];rfl))
    rw[←hedge] at lb
    obtain⟨q,hq⟩:∃q,labF es a=q:=⟨_,rfl⟩
    rw[hq] at la lb
    have hsz:=HBr.out.size
    have hbw:b0<wr.heap.size:=by omega
    have hgw:g<wr.heap.size:=by omega
    have hww:w.heap.size<wr.heap.size:=by omega
    have hk0:(0:Int)≤(k:Int):=by omega
    have hk1:(k:Int)<(L:Int):=by omega
    have ha0:(0:Int)≤(a:Int):=by omega
    have ha1:(a:Int)<(n:Int):=by omega
    have hb0:(0:Int)≤(b:Int):=by omega
    have hb1:(b:Int)<(n:Int):=by omega
    have HB2:=hide (HBr.out.trans (show Below y3.heap.size wr wr.drew from (Below.refl _ _).drew))
    clear he hem hfit d2' hedge hcell hq HBr
    go_upto_region 12 with fail
    refine wp_region_held_drew (S:=Kept wr) (by kernel_rfl) (Kept.drew wr) (fun hS0=>?_)
    refine tka 0 43 ?_
    refine tka 1 44 ?_
    refine tka 2 45 ?_
    refine tka 3 46 ?_
    refine tka 4 47 ?_
    refine tka 5 48 ?_
    refine tka 6 49 ?_
    refine tka 7 50 ?_
    refine tka 8 51 ?_
    refine tka 9 52 ?_
    refine tka 10 53 ?_
    refine tka 11 54 ?_
    refine tka 12 55 ?_
    refine tka 13 56 ?_
    refine tka 14 57 ?_
    refine tka 15 58 ?_
    refine tka 16 59 ?_
    refine tka 17 60 ?_
    refine tka 18 61 ?_
    refine wpAnyH_done (by kernel_rfl) ?_ _
    clear hS0 la lb d0 d1' c1
    go_wp2
    go_roundw
    case rel=>exact⟨k+1,by omega,by go_num,HB2⟩
    case measure=>simp[intOf];omega
   obtain rfl:L=k:=by omega
   have hmk:=marks_any wr A1 (labI es n) n d1 (labI_len _ _) (by omega) ((HR1c.out.below HBr.out).more HBr.out.size)
   rw[marks_ok HW.out] at hmk
   have HMk:=hide hmk
   clear hmk
   go_wp2_with fail
   refine HMk.out.mono ?_
   rintro e y4 ⟨rfl,rfl⟩
   clear HMk
   go_wp2_with fail
   refine (works_any y4).mono ?_
   rintro e y5 ⟨rfl,hz⟩
   have HF:=hide (HB.out.trans (((HBc.out.trans (HBr.out.mono HBc.out.size)).trans (hz.mono (by have:=HBc.out.size;have:=HBr.out.size;omega))).mono HB.out.size))
   clear hz c1
   go_wp2
   go_ret
   exact⟨rfl,HF.out⟩
 have hck1:¬ck=0:=hck0
 go_wp2_with fail
 refine (works_any y3).mono ?_
 rintro e z ⟨rfl,hz⟩
 have HF:=hide (HB.out.trans ((HBc.out.trans (hz.mono HBc.out.size)).mono HB.out.size))
 clear hz
 go_wp2
 go_ret
 exact⟨rfl,HF.out⟩
end Go.Proofs.YtgbahnlgblahpaaGreat

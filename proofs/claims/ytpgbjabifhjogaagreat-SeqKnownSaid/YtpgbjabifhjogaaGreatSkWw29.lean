/- Lemmas: Rmg. -/
import Derived.Test.YtpgbjabifhjogaaGreatSkWw8
set_option linter.unusedVariables false
set_option linter.unusedSimpArgs false
set_option maxRecDepth 100000
set_option maxHeartbeats 16000000
namespace Go.Proofs.YtpgbjabifhjogaaGreat
open Go.RowKit
def fldV (k v:Int) (l:List Ms):Ml:=l.foldl (addV k v) (false,0)
theorem fldV_snoc (k v:Int) (l:List Ms) (m:Ms):fldV k v (l ++ [m])=addV k v (fldV k v l) m:=by
 unfold fldV
 rw[List.foldl_append]
 rfl
theorem two_fin {w wf:World} {H:Nat} {T:TypeId} (z0 z1 v0 v1:Value) (hw:w.heap.size≤H) (hz:wf.heap[H]?=some (.cells #[z0,z1] T)) (hb:Below w.heap.size w wf) :
  ∃f,(wf.setCell ⟨H,0,none⟩ v0).setCell ⟨H,1,none⟩ v1=f∧Below w.heap.size w f∧f.heap[H]?=some (.cells #[v0,v1] T):=by
 have hF1:=heap_setCell_same _ H 0 _ _ v0 hz
 have hF2:=heap_setCell_same _ H 1 _ _ v1 hF1
 exact⟨_,rfl,((hb.setCell (p:=⟨H,0,none⟩) hw v0).setCell (p:=⟨H,1,none⟩) hw v1),hF2⟩
theorem rmail_any (w:World) (k j1 j2 j3 j4 v:Int) (Ar:Option Addr) (rs:List (List Ms)) (R cr:Nat) (hL:rs.length=R) (hR5:R≤1000) (hR:MRs w w.heap.size Ar rs) (hN:rs.flatten.length≤100000) :
  Calls Tryz.prog 89 #[.agg #[.int .u8 k,.int .i64 j1,.int .i64 j2,.int .i64 j3,.int .i64 j4],.int .i64 v,.slice Ar R cr] w fun e w'=>e = .returned (.agg #[.bool (fldV k v rs.flatten).1,.int .i64 (fldV k v rs.flatten).2])∧Below w.heap.size w w':=by
 have HN:=hide hN
 clear hN
 obtain⟨u,hu⟩:∃u,((w.alloc (.cells #[.int .u8 k,.int .i64 j1,.int .i64 j2,.int .i64 j3,.int .i64 j4] 26)).alloc (.cells #[.bool false,.int .i64 0] 76)).alloc (.cells #[.bool false,.int .i64 0] 76)=u:=⟨_,rfl⟩
 have hzu:u.heap.size=w.heap.size+3:=by rw[←hu];simp
 have HBu:=hide (show Below w.heap.size w u by rw[←hu];exact (((Below.refl _ _).alloc (Nat.le_refl _) _).alloc (by simp) _).alloc (by simp;omega) _)
 have G0:=hide (show u.heap[w.heap.size]?=some (.cells #[.int .u8 k,.int .i64 j1,.int .i64 j2,.int .i64 j3,.int .i64 j4] 26) by rw[←hu];exact (Below.heap_alloc _ _ _ (by simp;omega)).trans ((Below.heap_alloc _ _ _ (by simp)).trans (heap_alloc_last w _)))
 have G1:=hide (show u.heap[w.heap.size+1]?=some (.cells #[.bool false,.int .i64 0] 76) by rw[←hu];have h:=heap_alloc_last (w.alloc (.cells #[.int .u8 k,.int .i64 j1,.int .i64 j2,.int .i64 j3,.int .i64 j4] 26)) (.cells #[.bool false,.int .i64 0] 76);rw[World.size_alloc] at h;exact (Below.heap_alloc _ _ _ (by simp)).trans h)
 have G2:=hide (show u.heap[w.heap.size+2]?=some (.cells #[.bool false,.int .i64 0] 76) by rw[←hu];have h:=heap_alloc_last ((w.alloc (.cells #[.int .u8 k,.int .i64 j1,.int .i64 j2,.int .i64 j3,.int .i64 j4] 26)).alloc (.cells #[.bool false,.int .i64 0] 76)) (.cells #[.bool false,.int .i64 0] 76);rw[World.size_alloc,World.size_alloc] at h;exact h)
 have hlu:w.heap.size+3≤u.heap.size:=by omega
 have HU:=hide hu
 have HL:=hide hL
 have HRw:=hide hR
 clear hu hzu hL hR
 obtain⟨M,hMe⟩:∃M,w.heap.size+2=M:=⟨_,rfl⟩
 rw[hMe] at G2
 have HME:=hide hMe
 have hMu:M<u.heap.size:=by omega
 have hMw:w.heap.size+1<M:=by omega
 clear hMe
 go_enter Tryz.func89,Tryz.ntmps89
 go_wp2
 rw[HU.out,HME.out]
 go_loopw [8] (fun v8 wr=>∃i:Nat,i≤R∧v8 = .int .i64 (i:Int)∧Hid (wr.heap[M]?=some (.cells #[.bool (fldV k v ((rs.take i).flatten)).1,.int .i64 (fldV k v ((rs.take i).flatten)).2] 76))∧Hid (KB [M] u wr)∧Hid (Below w.heap.size w wr)) (fun v8 _=>R-(intOf v8).toNat)
 case atStart=>exact⟨0,by omega,rfl,G2,hide (KB.refl _ _),HBu⟩
 case round=>
  obtain⟨i,hi,rfl,HG,HK,HBr⟩:=hrel
  obtain⟨wr,rfl⟩:∃z:World,z=wr:=⟨_,rfl⟩
  have srw:w.heap.size≤wr.heap.size:=HBr.out.size
  by_cases hlt:i<R
  ·have hI1:(i:Int)<(R:Int):=by omega
   have hI0:(0:Int)≤(i:Int):=by omega
   obtain⟨r,hr⟩:∃r,rs[i]?=some r:=⟨_,List.getElem?_eq_getElem (by rw[HL.out];exact hlt)⟩
   obtain⟨g,off,rfl,hg,A1,c1,d0,hm⟩:=HRw.out.get hr
   have D0:=hide d0
   have HMs:=hide hm
   have HR:=hide hr
   obtain⟨q,hq⟩:∃q,r.length=q:=⟨_,rfl⟩
   rw[hq] at D0
   have HQ:=hide hq
   have hq5:q≤100000:=by have h:=flat_take hr;rw[hq] at h;have:=HN.out;omega
   clear d0 hm hr hq
   obtain⟨l0,hl0⟩:∃l,(rs.take i).flatten=l:=⟨_,rfl⟩
   rw[hl0] at HG
   have HLe:=hide hl0
   clear hl0
   go_wp2
   go_loopw [9] (fun v9 x=>∃j:Nat,j≤q∧v9 = .int .i64 (j:Int)∧Hid (x.heap[M]?=some (.cells #[.bool (fldV k v (l0 ++ r.take j)).1,.int .i64 (fldV k v (l0 ++ r.take j)).2] 76))∧Hid (KB [M] u x)∧Hid (Below w.heap.size w x)) (fun v9 _=>q-(intOf v9).toNat)
   case atStart=>exact⟨0,by omega,rfl,by rw[List.take_zero,List.append_nil];exact HG,HK,HBr⟩
   case round=>
    clear HG HK HBr
    obtain⟨j,hj,rfl,HG,HK,HBr⟩:=hrel
    obtain⟨x,rfl⟩:∃z:World,z=wr:=⟨_,rfl⟩
    have szx:w.heap.size≤x.heap.size:=HBr.out.size
    have e0:x.cell? ⟨g,off+i,none⟩=some (.slice A1 q c1):=(HBr.out.cell (p:=⟨g,off+i,none⟩) hg).trans D0.out
    have hgw:g<x.heap.size:=by omega
    by_cases hltj:j<q
    ·have hJ1:(j:Int)<(q:Int):=by omega
     have hJ0:(0:Int)≤(j:Int):=by omega
     obtain⟨m,hm⟩:∃m,r[j]?=some m:=⟨_,List.getElem?_eq_getElem (by rw[HQ.out];exact hltj)⟩
     obtain⟨g2,o2,rfl,hg2,d0,d1⟩:=HMs.out.get hm
     have e1:x.cell? ⟨g2,o2+j*2,none⟩=some (.int .i64 m.1):=(HBr.out.cell (p:=⟨g2,o2+j*2,none⟩) hg2).trans d0
     have e2:x.cell? ⟨g2,o2+j*2+1,none⟩=some (.int .i64 m.2):=(HBr.out.cell (p:=⟨g2,o2+j*2+1,none⟩) hg2).trans d1
     have hgx:g2<x.heap.size:=by omega
     have HSn:=hide (show r.take (j+1)=r.take j ++ [m] by rw[List.take_add_one,hm];rfl)
     have HFs:=hide (show fldV k v (l0 ++ r.take (j+1))=addV k v (fldV k v (l0 ++ r.take j)) m by rw[HSn.out,←List.append_assoc,fldV_snoc])
     clear hm d0 d1
     obtain⟨s,hs⟩:∃s,x.alloc (.cells #[.int .i64 m.1,.int .i64 m.2] 125)=s:=⟨_,rfl⟩
     have hT:s.heap[x.heap.size]?=some (.cells #[.int .i64 m.1,.int .i64 m.2] 125):=by rw[←hs];exact heap_alloc_last _ _
     have HBs:=hide (show Below x.heap.size x s by rw[←hs];exact (Below.refl _ _).alloc (Nat.le_refl _) _)
     have HS:=hide hs
     have hsz:x.heap.size<s.heap.size:=by rw[←hs];simp
     clear hs
     go_upto_region 9 with fail
     rw[HS.out]
     clear e0 e1 e2
     obtain⟨T,hTe⟩:∃T,x.heap.size=T:=⟨_,rfl⟩
     rw[hTe] at hT hsz ⊢
     have HTe:=hide hTe
     clear HS
     obtain⟨t0,t1⟩:=zr2 hT
     have hux:u.heap.size≤x.heap.size:=HK.out.1
     have hMs:M<s.heap.size:=by omega
     have hMT:M≠T:=by omega
     clear hTe
     have HKs:=hide (HK.out.below HBs.out HK.out.1)
     have HBw:=hide (HBr.out.trans (HBs.out.mono szx))
     have HGs:=hide ((HBs.out.block M (by omega)).trans HG.out)
     clear HG HK HBr hT
     obtain⟨f,hf⟩:∃f,fldV k v (l0 ++ r.take j)=f:=⟨_,rfl⟩
     rw[hf] at HGs HFs
     clear hf
     obtain⟨fh,fx⟩:=f
     by_cases hto:m.1=v
     rotate_left
     ·have hto2:(m.1 == v)=false:=by simpa using hto
      have hto3:(m.1 != v)=true:=by simpa using hto
      have hFe:Hid (fldV k v (l0 ++ r.take (j+1))=(fh,fx)):=hide (by rw[HFs.out];unfold addV;rw[if_neg hto])
      clear hto
      go_wp2
      go_roundw
      case rel=>exact⟨j+1,by omega,by go_num,by rw[hFe.out];exact HGs,HKs,HBw⟩
      case measure=>simp[intOf];omega
     have hto2:(m.1 == v)=true:=by simpa using hto
     have hto3:(m.1 != v)=false:=by simpa using hto
     have HTo:=hide hto
     clear hto
     obtain⟨g0,g1⟩:=zr2 HGs.out
     have zq:=zf HGs.out;have z0:=zq 0;have z1:=zq 1;clear zq
     cases fh
     ·have hFe:Hid (fldV k v (l0 ++ r.take (j+1))=(true,m.2)):=hide (by rw[HFs.out];unfold addV;rw[if_pos HTo.out];rfl)
      have HGn:=hide (show ((s.setCell ⟨M,0,none⟩ (.bool true)).setCell ⟨M,1,none⟩ (.int .i64 m.2)).heap[M]?=some (.cells #[.bool true,.int .i64 m.2] 76) from heap_setCell_same _ M 1 _ _ (.int .i64 m.2) (heap_setCell_same s M 0 _ _ (.bool true) HGs.out))
      have HKn:=hide ((HKs.out.setCell (p:=⟨M,0,none⟩) (.inr (by simp)) (.bool true)).setCell (p:=⟨M,1,none⟩) (.inr (by simp)) (.int .i64 m.2))
      have HBn:=hide ((HBw.out.setCell (p:=⟨M,0,none⟩) (by show w.heap.size≤M;omega) (.bool true)).setCell (p:=⟨M,1,none⟩) (by show w.heap.size≤M;omega) (.int .i64 m.2))
      clear HGs HKs HBw
      go_wp2
      go_roundw
      case rel=>exact⟨j+1,by omega,by go_num,by rw[hFe.out];exact HGn,HKn,HBn⟩
      case measure=>simp[intOf];omega
     have hFe:Hid (fldV k v (l0 ++ r.take (j+1))=(true,combF k fx m.2)):=hide (by rw[HFs.out];unfold addV;rw[if_pos HTo.out];rfl)
     have G0s:=(HKs.out.2 w.heap.size (by omega) (by simp;omega)).trans G0.out
     obtain⟨c0,c1,c2,c3,c4⟩:=zr5 G0s
     have hws:w.heap.size<s.heap.size:=by have:=HKs.out.1;omega
     clear G0s
     go_wp2_with fail
     refine (rcomb_any s k j1 j2 j3 j4 fx m.2).mono ?_
     rintro e z ⟨rfl,hz⟩
     have HGz:=hide ((hz.block M hMs).trans HGs.out)
     have HKz:=hide (HKs.out.below hz HKs.out.1)
     have HBz:=hide (HBw.out.trans (hz.mono HBw.out.size))
     have hMz:M<z.heap.size:=Nat.lt_of_lt_of_le hMs hz.size
     clear hz g0 g1 z0 z1 t0 t1 c0 c1 c2 c3 c4 HGs HKs HBw
     obtain⟨cv,hcv⟩:∃c,combF k fx m.2=c:=⟨_,rfl⟩
     rw[hcv] at hFe ⊢
     clear hcv
     have g1:z.cell? ⟨M,1,none⟩=some (.int .i64 fx):=cell_of_row _ _ 1 _ _ _ HGz.out
     have z1:=zf HGz.out 1
     have HGn:=hide (show (z.setCell ⟨M,1,none⟩ (.int .i64 cv)).heap[M]?=some (.cells #[.bool true,.int .i64 cv] 76) from heap_setCell_same z M 1 _ _ (.int .i64 cv) HGz.out)
     have HKn:=hide (HKz.out.setCell (p:=⟨M,1,none⟩) (.inr (by simp)) (.int .i64 cv))
     have HBn:=hide (HBz.out.setCell (p:=⟨M,1,none⟩) (by show w.heap.size≤M;omega) (.int .i64 cv))
     clear HGz HKz HBz
     go_wp2
     go_roundw
     case rel=>exact⟨j+1,by omega,by go_num,by rw[hFe.out];exact HGn,HKn,HBn⟩
     case measure=>simp[intOf];omega
    obtain rfl:j=q:=by omega
    have hfe:l0 ++ r.take j=(rs.take (i+1)).flatten:=by rw[List.take_of_length_le (by rw[HQ.out];exact Nat.le_refl _),flat_next HR.out,HLe.out]
    rw[hfe] at HG
    clear hfe
    go_wp2
    go_roundw
    case rel=>exact⟨i+1,by omega,by go_num,HG,HK,HBr⟩
    case measure=>simp[intOf];omega
  obtain rfl:i=R:=by omega
  have hfl:(rs.take i).flatten=rs.flatten:=by rw[List.take_of_length_le (by rw[HL.out];exact Nat.le_refl _)]
  rw[hfl] at HG
  clear hfl
  obtain⟨f,hf⟩:∃f,fldV k v rs.flatten=f:=⟨_,rfl⟩
  rw[hf] at HG
  have HFv:=hide hf
  clear hf
  obtain⟨fh,fx⟩:=f
  obtain⟨g0,g1⟩:=zr2 HG.out
  have hMr:M<wr.heap.size:=by have:=HK.out.1;omega
  have G1r:=(HK.out.2 (w.heap.size+1) (by omega) (by simp;omega)).trans G1.out
  obtain⟨y0,y1⟩:=zr2 G1r
  have zq:=zf G1r;have z0:=zq 0;have z1:=zq 1;clear zq
  have HFin:=hide (two_fin (.bool false) (.int .i64 0) (.bool fh) (.int .i64 fx) (show w.heap.size≤w.heap.size+1 by omega) G1r HBr.out)
  clear G1r HG HK HBr
  go_wp2
  obtain⟨f,hf,hfB,h6⟩:=HFin.out
  rw[hf]
  obtain⟨q0,q1⟩:=zr2 h6
  exact bodyPost_ret (v:=.agg #[.bool fh,.int .i64 fx]) (by simp[results,Tryz.results89,go_sem,q0,q1]) rfl ⟨by rw[HFv.out],hfB⟩
theorem MRs.next {w w':World} {A:Option Addr} {rs:List (List Ms)} (h:MRs w w.heap.size A rs) (hb:Below w.heap.size w w'):MRs w' w'.heap.size A rs:=
 Els.more (Els.keep h (fun p hp=>hb.cell hp) fun cs r hE=>by obtain⟨A',c',h1,h2⟩:=hE;exact⟨A',c',h1,h2.next hb⟩) hb.size
theorem MRs.drew {w:World} {A:Option Addr} {rs:List (List Ms)} (h:MRs w w.heap.size A rs):MRs w.drew w.drew.heap.size A rs:=h
theorem own2_of {y:World} {B n c:Nat} {A:Option Addr} {T:TypeId} {l:List Value} {m:Ml} {fh:Bool} {fx:Int} (h1:m.1=fh) (h2:m.2=fx) (h:y.ownsRow B T 2 (.slice A n c) n (l ++ [.bool fh,.int .i64 fx])):y.ownsRow B T 2 (.slice A n c) n (l ++ mlFlat [m]):=by
 subst h1 h2
 exact h
theorem rmerge_any (w:World) (k j1 j2 j3 j4:Int) (A Ar:Option Addr) (own:List Int) (rs:List (List Ms)) (V R c cr:Nat) (hV:own.length=V) (hV5:V≤1000) (hO:Rd w w.heap.size A (i64s own)) (hL:rs.length=R) (hR5:R≤1000) (hR:MRs w w.heap.size Ar rs) (hN:rs.flatten.length≤100000) :
  Calls Tryz.prog 66 #[.agg #[.int .u8 k,.int .i64 j1,.int .i64 j2,.int .i64 j3,.int .i64 j4],.slice A V c,.slice Ar R cr] w (MgPost w (mails k rs.flatten own)):=by
 have HN:=hide hN
 clear hN
 obtain⟨a3,a3i,a3z,a3s,a3b⟩:=info_parts (show (Tryz.prog.info? 76).map (fun i=>(i.zero,i.size,i.bytes))=some (some (.agg #[.bool false,.int .i64 0]),2,16) by kernel_rfl)
 obtain⟨u,hu⟩:∃u,w.alloc (.cells #[.int .u8 k,.int .i64 j1,.int .i64 j2,.int .i64 j3,.int .i64 j4] 26)=u:=⟨_,rfl⟩
 have hlu:w.heap.size<u.heap.size:=by rw[←hu];simp
 have HBu:=hide (show Below w.heap.size w u by rw[←hu];exact (Below.refl _ _).alloc (Nat.le_refl _) _)
 have G0:=hide (show u.heap[w.heap.size]?=some (.cells #[.int .u8 k,.int .i64 j1,.int .i64 j2,.int .i64 j3,.int .i64 j4] 26) by rw[←hu];exact heap_alloc_last _ _)
 have HU:=hide hu
 have HL:=hide hL
 have HRw:=hide hR
 have HV:=hide hV
 have HO:=hide hO
 have hMS:=hide (fun v=>box_mail k v rs.flatten)
 clear hu hL hR hV hO
 go_enter Tryz.func66,Tryz.ntmps66
 go_wp2
 rw[HU.out]
 go_loopw [8,7] (fun v8 v7 wr=>∃(i:Nat) (A':Option Addr) (c':Nat),i≤V∧v8 = .int .i64 (i:Int)∧v7 = .slice A' i c'∧Hid (wr.ownsRow u.heap.size 76 2 (.slice A' i c') i (mlFlat ((own.take i).map fun v=>fldV k v rs.flatten)))∧Hid (Below u.heap.size u wr)) (fun v8 _ _=>V-(intOf v8).toNat)
 case atStart=>exact⟨0,none,0,by omega,rfl,rfl,hide (World.ownsRow_nil _ _ _ _),hide (Below.refl _ _)⟩
 case round=>
  obtain⟨i,A',c',hi,rfl,rfl,HOw,HBr⟩:=hrel
  obtain⟨wr,rfl⟩:∃z:World,z=wr:=⟨_,rfl⟩
  have srw:u.heap.size≤wr.heap.size:=HBr.out.size
  by_cases hlt:i<V
  ·have hI1:(i:Int)<(V:Int):=by omega
   have hI0:(0:Int)≤(i:Int):=by omega
   obtain⟨vx,hvx⟩:∃m,own[i]?=some m:=⟨_,List.getElem?_eq_getElem (by rw[HV.out];exact hlt)⟩
   obtain⟨g3,o3,rfl,hg3,d0⟩:=HO.out.at1 (i64s_get hvx)
   have e0:wr.cell? ⟨g3,o3+i,none⟩=some (.int .i64 vx):=(HBr.out.cell (p:=⟨g3,o3+i,none⟩) (by show g3<_;omega)).trans ((HBu.out.cell (p:=⟨g3,o3+i,none⟩) hg3).trans d0)
   have hgx:g3<wr.heap.size:=by omega
   have HSn:=hide (show own.take (i+1)=own.take i ++ [vx] by rw[List.take_add_one,hvx];rfl)
   have G0r:=(HBr.out.block w.heap.size hlu).trans G0.out
   obtain⟨c0,c1,c2,c3,c4⟩:=zr5 G0r
   have hwr:w.heap.size<wr.heap.size:=by omega
   clear G0r hvx d0
   go_upto_region 5 with fail
   refine wpL_region (S:=Kept wr) [9] (by kernel_rfl) (Kept.drew wr) (fun hS0=>?_)
   refine tla 0 15 ?_
   refine tua [1,7,8,9,10] 1 16 ?_
   refine twa 2 17 ?_
   refine twa 3 18 ?_
   refine twa 4 19 ?_
   refine tua [5,7,8,9,10] 5 20 ?_
   refine twa 6 21 ?_
   refine cl 7 22 fun K hK=>?_
   go_simp
   refine (rmail_any wr.drew k j1 j2 j3 j4 vx Ar rs R cr HL.out hR5 (MRs.next HRw.out (HBu.out.trans (HBr.out.mono (by omega)))).drew HN.out).mono ?_
   rintro e z ⟨rfl,hz⟩
   have hS1:Kept wr z:=hS0.below (Nat.le_refl _) hz
   have q1:wr.heap.size≤z.heap.size:=hz.size
   have Z1:=hide ((Below.refl wr.heap.size wr).drew.trans (hz.mono (Nat.le_refl _)))
   clear hz
   go_wp2_with fail
   refine hK.out _ _ hS1 (fun hSn=>?_)
   clear hK K
   try simp only[zqd,zqe,zqf]
   refine cl 8 23 fun K hK=>?_
   go_simp
   obtain⟨fh,hfh⟩:∃x,(fldV k vx rs.flatten).1=x:=⟨_,rfl⟩
   obtain⟨fx,hfx⟩:∃x,(fldV k vx rs.flatten).2=x:=⟨_,rfl⟩
   rw[hfh,hfx]
   have HFH:=hide hfh
   have HFX:=hide hfx
   clear hfh hfx
   have hS2:Kept wr (z.alloc (.cells #[.bool fh,.int .i64 fx] 76)):=fun p hp=>(World.cell?_alloc_lt _ _ _ (Nat.lt_of_lt_of_le hp q1)).trans (hS1 p hp)
   refine hK.out _ _ hS2 (fun hSn=>?_)
   clear hK K
   try simp only[zqd,zqe,zqf]
   refine xl 9 fun K hK=>?_
   refine op_app (.tmp 15) (.tmp 23) 31 rfl u.heap.size 76 a3 (.agg #[.bool false,.int .i64 0]) 2 16 Tryz.underlying31 a3i a3z a3s a3b rfl (by decide) (.slice A' i c') i _ rfl ((own_below HOw.out Z1.out (fun g hg=>(HOw.out.lt g hg).2)).alloc _) (z.heap.size+1) (some ⟨z.heap.size,0,none⟩) 1 1 [.bool fh,.int .i64 fx] rfl rfl (Rd.new _ _ _ _) (by simp[Value.oneCell']) (by unfold maxLen;omega) (by omega) (by simp;omega) ?_
   intro A2 c2 y own2 hg2 hat2
   have HB2:=hide (app_below ((HBr.out.trans (Z1.out.mono srw)).alloc (Nat.le_trans srw q1) (.cells #[.bool fh,.int .i64 fx] 76)) ((own_below HOw.out Z1.out (fun g hg=>(HOw.out.lt g hg).2)).alloc _) hg2 (by simp;omega) (Nat.le_refl _))
   have HO2:Hid (y.ownsRow u.heap.size 76 2 (.slice A2 (i+1) c2) (i+1) (mlFlat ((own.take (i+1)).map fun v=>fldV k v rs.flatten))):=hide (by rw[HSn.out,List.map_append,←mlFlat_app];exact own2_of HFH.out HFX.out own2)
   clear own2 hg2 hat2
   refine hK.out _ _ ?_
   clear hK K
   simp only[Act.put]
   try simp only[zqd,zqe,zqf]
   refine twa 10 7 ?_
   refine wpAnyL_done (by kernel_rfl) ?_ _
   clear hS0 hSn hS1 hS2 c0 c1 c3 c4 e0
   go_wp2
   go_roundw
   case rel=>exact⟨i+1,_,_,by omega,by go_num,rfl,HO2,HB2⟩
   case measure=>simp[intOf];omega
  obtain rfl:i=V:=by omega
  have HF:Hid (MgPost w (mails k rs.flatten own) (.returned (.slice A' i c')) wr):=hide (by
    have h:=HOw.out
    rw[List.take_of_length_le (by rw[HV.out];exact Nat.le_refl _)] at h
    have e:own.map (fun v=>fldV k v rs.flatten)=mails k rs.flatten own:=List.map_congr_left fun v _=>(hMS.out v).symm
    rw[e] at h
    refine⟨A',c',?_,Rd.of_own h,HBu.out.trans (HBr.out.mono (by omega)),own_new h (by omega)⟩
    rw[show (mails k rs.flatten own).length=i by unfold mails;rw[List.length_map];exact HV.out])
  clear HOw HBr
  go_wp2
  go_ret
  exact HF.out
end Go.Proofs.YtpgbjabifhjogaaGreat

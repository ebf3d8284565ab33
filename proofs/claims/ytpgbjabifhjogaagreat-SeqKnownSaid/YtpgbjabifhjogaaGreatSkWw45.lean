/- Lemmas: Skn. -/
import Derived.Test.YtpgbjabifhjogaaGreatProg
import Derived.Deep.Strs
import Derived.Test.YtpgbjabifhjogaaGreatSkWw44
set_option linter.unusedVariables false
set_option linter.unusedSimpArgs false
set_option maxRecDepth 100000
set_option maxHeartbeats 16000000
namespace Go.Proofs.YtpgbjabifhjogaaGreat
open Go.RowKit Go.Shelf
attribute [local go_sem] Oper.semAt_some
theorem jr_of {w t:World} (ht:w.alloc (.cells #[.int .u8 1,.int .i64 6,.int .i64 0,.int .i64 3650722201,.int .i64 0,.int .u8 1,.int .i64 9,.int .i64 0,.int .i64 4294967296,.int .i64 5,.int .u8 1,.int .i64 3,.int .i64 0,.int .i64 0,.int .i64 0,.int .u8 2,.int .i64 9,.int .i64 0,.int .i64 0,.int .i64 0,.int .u8 2,.int .i64 0,.int .i64 0,.int .i64 0,.int .i64 0,.int .u8 3,.int .i64 9,.int .i64 0,.int .i64 0,.int .i64 0,.int .u8 3,.int .i64 2,.int .i64 2,.int .i64 0,.int .i64 0,.int .u8 0,.int .i64 0,.int .i64 0,.int .i64 0,.int .i64 0,.int .u8 3,.int .i64 0,.int .i64 9,.int .i64 0,.int .i64 0] 26)=t):JR t w.heap.size∧Below w.heap.size w t:=by
 have k3:t.heap[w.heap.size]?=some (.cells #[.int .u8 1,.int .i64 6,.int .i64 0,.int .i64 3650722201,.int .i64 0,.int .u8 1,.int .i64 9,.int .i64 0,.int .i64 4294967296,.int .i64 5,.int .u8 1,.int .i64 3,.int .i64 0,.int .i64 0,.int .i64 0,.int .u8 2,.int .i64 9,.int .i64 0,.int .i64 0,.int .i64 0,.int .u8 2,.int .i64 0,.int .i64 0,.int .i64 0,.int .i64 0,.int .u8 3,.int .i64 9,.int .i64 0,.int .i64 0,.int .i64 0,.int .u8 3,.int .i64 2,.int .i64 2,.int .i64 0,.int .i64 0,.int .u8 0,.int .i64 0,.int .i64 0,.int .i64 0,.int .i64 0,.int .u8 3,.int .i64 0,.int .i64 9,.int .i64 0,.int .i64 0] 26):=by rw[←ht];exact heap_alloc_last _ _
 refine⟨⟨lt_of_block k3,fun i hi=>?_⟩,by rw[←ht];exact (Below.refl _ _).alloc (Nat.le_refl _) _⟩
 rcases i with _ | _ | _ | _ | _ | _ | _ | _ | _ | i
 ·exact⟨1,6,0,3650722201,0,by unfold JbB i64B;decide,cell_of_row _ _ 0 _ _ _ k3,cell_of_row _ _ 1 _ _ _ k3,cell_of_row _ _ 2 _ _ _ k3,cell_of_row _ _ 3 _ _ _ k3,cell_of_row _ _ 4 _ _ _ k3⟩
 ·exact⟨1,9,0,4294967296,5,by unfold JbB i64B;decide,cell_of_row _ _ 5 _ _ _ k3,cell_of_row _ _ 6 _ _ _ k3,cell_of_row _ _ 7 _ _ _ k3,cell_of_row _ _ 8 _ _ _ k3,cell_of_row _ _ 9 _ _ _ k3⟩
 ·exact⟨1,3,0,0,0,by unfold JbB i64B;decide,cell_of_row _ _ 10 _ _ _ k3,cell_of_row _ _ 11 _ _ _ k3,cell_of_row _ _ 12 _ _ _ k3,cell_of_row _ _ 13 _ _ _ k3,cell_of_row _ _ 14 _ _ _ k3⟩
 ·exact⟨2,9,0,0,0,by unfold JbB i64B;decide,cell_of_row _ _ 15 _ _ _ k3,cell_of_row _ _ 16 _ _ _ k3,cell_of_row _ _ 17 _ _ _ k3,cell_of_row _ _ 18 _ _ _ k3,cell_of_row _ _ 19 _ _ _ k3⟩
 ·exact⟨2,0,0,0,0,by unfold JbB i64B;decide,cell_of_row _ _ 20 _ _ _ k3,cell_of_row _ _ 21 _ _ _ k3,cell_of_row _ _ 22 _ _ _ k3,cell_of_row _ _ 23 _ _ _ k3,cell_of_row _ _ 24 _ _ _ k3⟩
 ·exact⟨3,9,0,0,0,by unfold JbB i64B;decide,cell_of_row _ _ 25 _ _ _ k3,cell_of_row _ _ 26 _ _ _ k3,cell_of_row _ _ 27 _ _ _ k3,cell_of_row _ _ 28 _ _ _ k3,cell_of_row _ _ 29 _ _ _ k3⟩
 ·exact⟨3,2,2,0,0,by unfold JbB i64B;decide,cell_of_row _ _ 30 _ _ _ k3,cell_of_row _ _ 31 _ _ _ k3,cell_of_row _ _ 32 _ _ _ k3,cell_of_row _ _ 33 _ _ _ k3,cell_of_row _ _ 34 _ _ _ k3⟩
 ·exact⟨0,0,0,0,0,by unfold JbB i64B;decide,cell_of_row _ _ 35 _ _ _ k3,cell_of_row _ _ 36 _ _ _ k3,cell_of_row _ _ 37 _ _ _ k3,cell_of_row _ _ 38 _ _ _ k3,cell_of_row _ _ 39 _ _ _ k3⟩
 ·exact⟨3,0,9,0,0,by unfold JbB i64B;decide,cell_of_row _ _ 40 _ _ _ k3,cell_of_row _ _ 41 _ _ _ k3,cell_of_row _ _ 42 _ _ _ k3,cell_of_row _ _ 43 _ _ _ k3,cell_of_row _ _ 44 _ _ _ k3⟩
 omega
theorem gr_of {y u:World} {A1 A2 A3:Option Addr} {c1 c2 c3:Nat} (h1:SmG y 6 A1 millE 5 c1) (h2:SmG y 5 A2 (ringE 5) 5 c2) (h3:SmG y 1 A3 (ringE 1) 1 c3) (hu:y.alloc (.cells #[.int .i64 6,.slice A1 5 c1,.int .i64 5,.slice A2 5 c2,.int .i64 1,.slice A3 1 c3,.int .i64 3,.slice none 0 0,.int .i64 0,.slice none 0 0] 24)=u):GR u y.heap.size∧Below y.heap.size y u:=by
 have b3:Below y.heap.size y u:=by rw[←hu];exact (Below.refl _ _).alloc (Nat.le_refl _) _
 have k3:u.heap[y.heap.size]?=some (.cells #[.int .i64 6,.slice A1 5 c1,.int .i64 5,.slice A2 5 c2,.int .i64 1,.slice A3 1 c3,.int .i64 3,.slice none 0 0,.int .i64 0,.slice none 0 0] 24):=by rw[←hu];exact heap_alloc_last _ _
 refine⟨⟨lt_of_block k3,fun i hi=>?_⟩,b3⟩
 rcases i with _ | _ | _ | _ | _ | i
 ·exact⟨6,A1,millE,5,c1,cell_of_row _ _ 0 _ _ _ k3,cell_of_row _ _ 1 _ _ _ k3,h1.next b3⟩
 ·exact⟨5,A2,ringE 5,5,c2,cell_of_row _ _ 2 _ _ _ k3,cell_of_row _ _ 3 _ _ _ k3,h2.next b3⟩
 ·exact⟨1,A3,ringE 1,1,c3,cell_of_row _ _ 4 _ _ _ k3,cell_of_row _ _ 5 _ _ _ k3,h3.next b3⟩
 ·exact⟨3,none,[],0,0,cell_of_row _ _ 6 _ _ _ k3,cell_of_row _ _ 7 _ _ _ k3,SmG.none_ (by decide) (by decide)⟩
 ·exact⟨0,none,[],0,0,cell_of_row _ _ 8 _ _ _ k3,cell_of_row _ _ 9 _ _ _ k3,SmG.none_ (by decide) (by decide)⟩
 omega
def SkMid (y:World) (v:Value) (wc:World):Prop:=
 ∃(T:Nat) (s:SV) (Av Ac Ai:Option Addr) (m cv cc ci:Nat),v = .pointer (some ⟨T,0,none⟩)∧wc.heap[T]?=some (.cells #[.int .i64 s.st,.slice Av m cv,.slice Ac m cc,.slice Ai m ci,.int .i64 s.sm,.int .i64 s.mo] 33)∧StM wc s Av Ac Ai m m m∧m≤512∧Below y.heap.size y wc
theorem below_set6 {y z:World} {T B:Nat} {x0 x1 x2 x3 x4 x5:Value} (h:Below B y z) (hT:B≤T):Below B y ((((((z.setCell ⟨T,0,none⟩ x0).setCell ⟨T,1,none⟩ x1).setCell ⟨T,2,none⟩ x2).setCell ⟨T,3,none⟩ x3).setCell ⟨T,4,none⟩ x4).setCell ⟨T,5,none⟩ x5):=
 (((((h.setCell (p:=⟨T,0,none⟩) hT _).setCell (p:=⟨T,1,none⟩) hT _).setCell (p:=⟨T,2,none⟩) hT _).setCell (p:=⟨T,3,none⟩) hT _).setCell (p:=⟨T,4,none⟩) hT _).setCell (p:=⟨T,5,none⟩) hT _
theorem seqKnown_walk (w:World):Calls Tryz.prog 9 #[] w fun e w'=>e = .returned (.bool true)∧Below w.heap.size w w':=by
 go_enter Tryz.func9,Tryz.ntmps9
 go_upto_region 2 with fail
 obtain⟨t,ht⟩:∃t,w.alloc (.cells #[.int .u8 1,.int .i64 6,.int .i64 0,.int .i64 3650722201,.int .i64 0,.int .u8 1,.int .i64 9,.int .i64 0,.int .i64 4294967296,.int .i64 5,.int .u8 1,.int .i64 3,.int .i64 0,.int .i64 0,.int .i64 0,.int .u8 2,.int .i64 9,.int .i64 0,.int .i64 0,.int .i64 0,.int .u8 2,.int .i64 0,.int .i64 0,.int .i64 0,.int .i64 0,.int .u8 3,.int .i64 9,.int .i64 0,.int .i64 0,.int .i64 0,.int .u8 3,.int .i64 2,.int .i64 2,.int .i64 0,.int .i64 0,.int .u8 0,.int .i64 0,.int .i64 0,.int .i64 0,.int .i64 0,.int .u8 3,.int .i64 0,.int .i64 9,.int .i64 0,.int .i64 0] 26)=t:=⟨_,rfl⟩
 have hjr:=jr_of ht
 have HJR:=hide hjr.1
 have HB0:=hide hjr.2
 rw[ht]
 clear hjr ht
 go_wp2_with fail
 refine (mill_any t).mono ?_
 rintro e y1 ⟨A1,c1,rfl,he1,hl1,hc1,hb1⟩
 rw[show millE.length=5 from rfl] at hl1 ⊢
 have HG1:Hid (SmG y1 6 A1 millE 5 c1):=hide ⟨rfl,he1,hl1,hc1,by intro e he;simp only[millE,List.mem_cons,List.not_mem_nil,or_false] at he;rcases he with rfl | rfl | rfl | rfl | rfl <;> simp[edB],by decide,by decide,by decide⟩
 have HB1:=hide hb1
 clear he1 hl1 hc1 hb1
 go_wp2_with fail
 refine (ring_any y1 5 (by decide) (by decide)).mono ?_
 rintro e y2 ⟨A2,c2,rfl,he2,hl2,hc2,hb2⟩
 rw[ring_len] at hl2 ⊢
 rw[show ((5:Nat):Int)=5 from rfl]
 have HG2:Hid (SmG y2 5 A2 (ringE 5) 5 c2):=hide ⟨rfl,he2,hl2,hc2,fun e he=>ring_edB 5 (by decide) e he,by decide,by decide,by decide⟩
 have HG1b:=hide (HG1.out.next hb2)
 have HB2:=hide (HB1.out.trans (hb2.mono HB1.out.size))
 clear he2 hl2 hc2 hb2
 go_wp2_with fail
 refine (ring_any y2 1 (by decide) (by decide)).mono ?_
 rintro e y3 ⟨A3,c3,rfl,he3,hl3,hc3,hb3⟩
 rw[ring_len] at hl3 ⊢
 rw[show ((1:Nat):Int)=1 from rfl]
 have HG3:Hid (SmG y3 1 A3 (ringE 1) 1 c3):=hide ⟨rfl,he3,hl3,hc3,fun e he=>ring_edB 1 (by decide) e he,by decide,by decide,by decide⟩
 have HG1c:=hide (HG1b.out.next hb3)
 have HG2c:=hide (HG2.out.next hb3)
 have HB3:=hide (HB2.out.trans (hb3.mono HB2.out.size))
 clear he3 hl3 hc3 hb3 HG1 HG1b HG2 HB1 HB2
 go_wp2
 obtain⟨u,hu⟩:∃u,y3.alloc (.cells #[.int .i64 6,.slice A1 5 c1,.int .i64 5,.slice A2 5 c2,.int .i64 1,.slice A3 1 c3,.int .i64 3,.slice none 0 0,.int .i64 0,.slice none 0 0] 24)=u:=⟨_,rfl⟩
 have hgr:=gr_of HG1c.out HG2c.out HG3.out hu
 have HGR:=hide hgr.1
 have HBt:=hide (HB3.out.trans (hgr.2.mono HB3.out.size))
 have HJu:=hide (HJR.out.next HBt.out)
 have HB:=hide (HB0.out.trans (HBt.out.mono HB0.out.size))
 rw[hu]
 obtain⟨B,hB⟩:∃B,y3.heap.size=B:=⟨_,rfl⟩
 rw[hB] at HGR ⊢
 clear hgr hu hB HG1c HG2c HG3 HB3 HBt HJR HB0
 go_loopw [29] (fun v29 wr=>∃i:Nat,i≤5∧v29 = .int .i64 (i:Int)∧Hid (Below u.heap.size u wr)) (fun v29 _=>5-(intOf v29).toNat)
 case atStart=>exact⟨0,by omega,rfl,hide (Below.refl _ _)⟩
 case round=>
  obtain⟨i,hi,rfl,HBr⟩:=hrel
  obtain⟨wa,rfl⟩:∃z:World,z=wr:=⟨_,rfl⟩
  by_cases hlt:i<5
  ·have hI1:(i:Int)<5:=by omega
   obtain⟨V,A,es,L,c,g0,g1,hs⟩:=(HGR.out.next HBr.out).2 i hlt
   have HS:=hide hs
   clear hs
   go_wp2
   obtain⟨x,hx⟩:∃x,wa.alloc (.cells #[.int .i64 V,.slice A L c] 24)=x:=⟨_,rfl⟩
   have hbx:Below wa.heap.size wa x:=by rw[←hx];exact (Below.refl _ _).alloc (Nat.le_refl _) _
   have hgx:x.heap[wa.heap.size]?=some (.cells #[.int .i64 V,.slice A L c] 24):=by rw[←hx];exact heap_alloc_last _ _
   rw[hx]
   obtain⟨G,hG⟩:∃G,wa.heap.size=G:=⟨_,rfl⟩
   rw[hG] at hgx ⊢
   have hGx:=lt_of_block hgx
   have HGx:=hide hgx
   have HSx:=hide (HS.out.next hbx)
   have HBx:=hide (HBr.out.trans (hbx.mono HBr.out.size))
   have HJx:=hide (HJu.out.next HBx.out)
   clear hx hbx hgx hG g0 g1 HS HBr
   go_loopw [4] (fun v4 wr=>∃n:Nat,n≤9∧v4 = .int .i64 (n:Int)∧Hid (Below x.heap.size x wr)) (fun v4 _=>9-(intOf v4).toNat)
   case atStart=>exact⟨0,by omega,rfl,hide (Below.refl _ _)⟩
   case round=>
    obtain⟨n,hn,rfl,HBn⟩:=hrel
    obtain⟨wb,rfl⟩:∃z:World,z=wr:=⟨_,rfl⟩
    by_cases hln:n<9
    ·have hn0:(0:Int)≤(n:Int):=by omega
     have hn1:(n:Int)<9:=by omega
     obtain⟨k,j1,j2,j3,j4,hjb,e0,e1,e2,e3,e4⟩:=HJx.out.2 n hln
     have HJB:=hide hjb
     have hjc:∀y:World,Below x.heap.size x y→y.cell? ⟨w.heap.size,(n:Nat)*5,none⟩=some (.int .u8 k)∧y.cell? ⟨w.heap.size,(n:Nat)*5+1,none⟩=some (.int .i64 j1)∧y.cell? ⟨w.heap.size,(n:Nat)*5+2,none⟩=some (.int .i64 j2)∧y.cell? ⟨w.heap.size,(n:Nat)*5+3,none⟩=some (.int .i64 j3)∧y.cell? ⟨w.heap.size,(n:Nat)*5+4,none⟩=some (.int .i64 j4):=fun y hb=>⟨(hb.cell HJx.out.1).trans e0,(hb.cell HJx.out.1).trans e1,(hb.cell HJx.out.1).trans e2,(hb.cell HJx.out.1).trans e3,(hb.cell HJx.out.1).trans e4⟩
     clear hjb e0 e1 e2 e3 e4
     have HSb:=hide (HSx.out.next HBn.out)
     have HJC:=hide hjc
     clear hjc
     go_upto_region 8 with fail
     go_cut [5] (fun v5 wc=>Hid (SkMid wb v5 wc))
     case first=>
      have HKb:=hide HBn.out
      obtain⟨g0,g1⟩:=zr2 ((HKb.out.block _ hGx).trans HGx.out)
      have hGw:G<wb.heap.size:=by have:=HKb.out.size;omega
      have hjc:=HJC.out
      obtain⟨b0,b1,b2,b3,b4⟩:=hjc wb HKb.out
      have hJw:w.heap.size<wb.heap.size:=by have:=HKb.out.size;have:=HJx.out.1;omega
      clear hjc
      refine wpL_region (S:=Kept wb) [10] (by kernel_rfl) (Kept.drew wb) (fun hS0=>?_)
      refine tla 0 40 ?_
      refine tla 1 41 ?_
      refine tla 2 42 ?_
      refine tla 3 43 ?_
      refine tla 4 44 ?_
      refine call2L_at (i:=5) (j:=9) (by simp only[zqa,zqb,zqc];rfl) (by simp only[zqa,zqb,zqc];rfl) (by kernel_rfl) rfl rfl (fun K hK=>?_) (fun K hK=>?_)
      ·go_simp
       have hbw:Below wb.heap.size wb wb.drew:=(Below.refl wb.heap.size wb).drew
       refine ((HSb.out.next hbw).first k j1 j2 j3 j4).mono ?_
       rintro e z ⟨s,Av,Ac,Ai,m,cv,cc,ci,E,rfl,hst,hm5,hz,hn1',hn2',hn3'⟩
       have HST:=hide hst
       have HNN:=hide (And.intro hn1' (And.intro hn2' hn3'))
       have HBz:=hide (hbw.trans (hz.mono hbw.size))
       have hSz:Kept wb z:=Kept.of_below HBz.out
       have szz:wb.heap.size≤z.heap.size:=HBz.out.size
       clear hst hz hbw hn1' hn2' hn3'
       go_wp2_with fail
       refine hK.out _ _ hSz (fun hSn=>?_)
       clear hK K
       try simp only[zqd,zqe,zqf]
       refine tla 6 39 ?_
       refine tla 7 46 ?_
       refine twa 8 47 ?_
       refine cl 9 5 fun K hK=>?_
       go_simp
       have hS6:Kept wb (z.alloc (.cells #[.int .i64 0,.slice none 0 0,.slice none 0 0,.slice none 0 0,.int .i64 0,.int .i64 0] 33)):=fun p hp=>(World.cell?_alloc_lt _ _ _ (by omega)).trans (hSz p hp)
       refine hK.out _ _ hS6 (fun hSn=>?_)
       clear hK K
       try simp only[zqd,zqe,zqf]
       refine xl 10 fun K hK=>?_
       obtain⟨u4,hu4⟩:∃x,z.alloc (.cells #[.int .i64 0,.slice none 0 0,.slice none 0 0,.slice none 0 0,.int .i64 0,.int .i64 0] 33)=x:=⟨_,rfl⟩
       have cP:u4.heap[z.heap.size]?=some (.cells #[.int .i64 0,.slice none 0 0,.slice none 0 0,.slice none 0 0,.int .i64 0,.int .i64 0] 33):=by rw[←hu4];exact heap_alloc_last _ _
       have HBu:Hid (Below wb.heap.size wb u4):=hide (by rw[←hu4];exact HBz.out.alloc szz _)
       have HZu:Hid (Below z.heap.size z u4):=hide (by rw[←hu4];exact (Below.refl _ _).alloc (Nat.le_refl _) _)
       rw[hu4]
       have cp0:u4.cell? ⟨z.heap.size,0,none⟩=some (.int .i64 0):=cell_of_row _ _ 0 _ _ _ cP
       have cf0:=zf cP 0
       have cp1:u4.cell? ⟨z.heap.size,1,none⟩=some (.slice none 0 0):=cell_of_row _ _ 1 _ _ _ cP
       have cf1:=zf cP 1
       have cp2:u4.cell? ⟨z.heap.size,2,none⟩=some (.slice none 0 0):=cell_of_row _ _ 2 _ _ _ cP
       have cf2:=zf cP 2
       have cp3:u4.cell? ⟨z.heap.size,3,none⟩=some (.slice none 0 0):=cell_of_row _ _ 3 _ _ _ cP
       have cf3:=zf cP 3
       have cp4:u4.cell? ⟨z.heap.size,4,none⟩=some (.int .i64 0):=cell_of_row _ _ 4 _ _ _ cP
       have cf4:=zf cP 4
       have cp5:u4.cell? ⟨z.heap.size,5,none⟩=some (.int .i64 0):=cell_of_row _ _ 5 _ _ _ cP
       have cf5:=zf cP 5
       have CP:=hide cP
       have hTu:z.heap.size<u4.heap.size:=lt_of_block cP
       clear cP
       go_wp2_with fail
       refine hK.out _ _ ?_
       clear hK K
       try simp only[zqd,zqe,zqf]
       refine twa 11 6 ?_
       refine wpAnyL_done (by kernel_rfl) ?_ _
       have hF:=far6 u4 (z.heap.size) (z.heap.size) (.int .i64 s.st) (.slice Av m cv) (.slice Ac m cc) (.slice Ai m ci) (.int .i64 s.sm) (.int .i64 s.mo) CP.out
       have HFin:Hid (SkMid wb (.pointer (some ⟨z.heap.size,0,none⟩)) ((((((u4.setCell ⟨z.heap.size,0,none⟩ (.int .i64 s.st)).setCell ⟨z.heap.size,1,none⟩ (.slice Av m cv)).setCell ⟨z.heap.size,2,none⟩ (.slice Ac m cc)).setCell ⟨z.heap.size,3,none⟩ (.slice Ai m ci)).setCell ⟨z.heap.size,4,none⟩ (.int .i64 s.sm)).setCell ⟨z.heap.size,5,none⟩ (.int .i64 s.mo))):=hide ⟨z.heap.size,s,Av,Ac,Ai,m,cv,cc,ci,rfl,hF.2,HST.out.next (below_set6 HZu.out (Nat.le_refl _)),hm5,below_set6 HBu.out (by omega)⟩
       clear hF
       go_wp2
       go_meet
       case rel=>exact HFin
      go_simp
      have hS5:Kept wb (wb.alloc (.cells #[.int .i64 0,.slice none 0 0,.slice none 0 0,.slice none 0 0,.int .i64 0,.int .i64 0] 33)).drew:=fun p hp=>(show (wb.alloc (.cells #[.int .i64 0,.slice none 0 0,.slice none 0 0,.slice none 0 0,.int .i64 0,.int .i64 0] 33)).drew.cell? p=(wb.alloc (.cells #[.int .i64 0,.slice none 0 0,.slice none 0 0,.slice none 0 0,.int .i64 0,.int .i64 0] 33)).cell? p from rfl).trans (World.cell?_alloc_lt _ _ _ hp)
      refine hK.out _ _ hS5 (fun hSn=>?_)
      clear hK K
      try simp only[zqd,zqe,zqf]
      refine cl 5 45 fun K hK=>?_
      go_simp
      have hbw:Below wb.heap.size wb (wb.alloc (.cells #[.int .i64 0,.slice none 0 0,.slice none 0 0,.slice none 0 0,.int .i64 0,.int .i64 0] 33)).drew:=((Below.refl wb.heap.size wb).alloc (Nat.le_refl _) (.cells #[.int .i64 0,.slice none 0 0,.slice none 0 0,.slice none 0 0,.int .i64 0,.int .i64 0] 33)).drew
      refine ((HSb.out.next hbw).first k j1 j2 j3 j4).mono ?_
      rintro e z ⟨s,Av,Ac,Ai,m,cv,cc,ci,E,rfl,hst,hm5,hz,hn1',hn2',hn3'⟩
      have HST:=hide hst
      have HNN:=hide (And.intro hn1' (And.intro hn2' hn3'))
      have HBz:=hide (hbw.trans (hz.mono hbw.size))
      have hSz:Kept wb z:=Kept.of_below HBz.out
      have szz:wb.heap.size≤z.heap.size:=HBz.out.size
      have HTz:=hide ((hz.block wb.heap.size (by simp)).trans (show ((wb.alloc (.cells #[.int .i64 0,.slice none 0 0,.slice none 0 0,.slice none 0 0,.int .i64 0,.int .i64 0] 33)).drew).heap[wb.heap.size]?=some (.cells #[.int .i64 0,.slice none 0 0,.slice none 0 0,.slice none 0 0,.int .i64 0,.int .i64 0] 33) from heap_alloc_last _ _))
      clear hst hz hbw hn1' hn2' hn3'
      go_wp2_with fail
      refine hK.out _ _ hSz (fun hSn=>?_)
      clear hK K
      try simp only[zqd,zqe,zqf]
      refine tla 6 39 ?_
      refine tla 7 46 ?_
      refine twa 8 47 ?_
      refine xl 10 fun K hK=>?_
      obtain⟨u4,hu4⟩:∃x,z=x:=⟨_,rfl⟩
      rw[hu4] at HTz HBz HST ⊢
      have cP:=HTz.out
      have HBu:=HBz
      have cp0:u4.cell? ⟨wb.heap.size,0,none⟩=some (.int .i64 0):=cell_of_row _ _ 0 _ _ _ cP
      have cf0:=zf cP 0
      have cp1:u4.cell? ⟨wb.heap.size,1,none⟩=some (.slice none 0 0):=cell_of_row _ _ 1 _ _ _ cP
      have cf1:=zf cP 1
      have cp2:u4.cell? ⟨wb.heap.size,2,none⟩=some (.slice none 0 0):=cell_of_row _ _ 2 _ _ _ cP
      have cf2:=zf cP 2
      have cp3:u4.cell? ⟨wb.heap.size,3,none⟩=some (.slice none 0 0):=cell_of_row _ _ 3 _ _ _ cP
      have cf3:=zf cP 3
      have cp4:u4.cell? ⟨wb.heap.size,4,none⟩=some (.int .i64 0):=cell_of_row _ _ 4 _ _ _ cP
      have cf4:=zf cP 4
      have cp5:u4.cell? ⟨wb.heap.size,5,none⟩=some (.int .i64 0):=cell_of_row _ _ 5 _ _ _ cP
      have cf5:=zf cP 5
      have CP:=hide cP
      have hTu:wb.heap.size<u4.heap.size:=lt_of_block cP
      clear cP
      go_wp2_with fail
      refine hK.out _ _ ?_
      clear hK K
      try simp only[zqd,zqe,zqf]
      refine twa 11 6 ?_
      refine wpAnyL_done (by kernel_rfl) ?_ _
      have hF:=far6 u4 (wb.heap.size) (wb.heap.size) (.int .i64 s.st) (.slice Av m cv) (.slice Ac m cc) (.slice Ai m ci) (.int .i64 s.sm) (.int .i64 s.mo) CP.out
      have HFin:Hid (SkMid wb (.pointer (some ⟨wb.heap.size,0,none⟩)) ((((((u4.setCell ⟨wb.heap.size,0,none⟩ (.int .i64 s.st)).setCell ⟨wb.heap.size,1,none⟩ (.slice Av m cv)).setCell ⟨wb.heap.size,2,none⟩ (.slice Ac m cc)).setCell ⟨wb.heap.size,3,none⟩ (.slice Ai m ci)).setCell ⟨wb.heap.size,4,none⟩ (.int .i64 s.sm)).setCell ⟨wb.heap.size,5,none⟩ (.int .i64 s.mo))):=hide ⟨wb.heap.size,s,Av,Ac,Ai,m,cv,cc,ci,rfl,hF.2,HST.out.far hF.1 HNN.out.1 HNN.out.2.1 HNN.out.2.2 (by simp),hm5,below_set6 HBu.out (by omega)⟩
      clear hF
      go_wp2
      go_meet
      case rel=>exact HFin
     case rest=>
      obtain⟨T,s,Av,Ac,Ai,m,cv,cc,ci,rfl,hT,hst,hm5,hb⟩:=hcut.out
      have HT:=hide hT
      have hTc:=lt_of_block hT
      have HST:=hide hst
      have HKc:=hide (HBn.out.trans (hb.mono HBn.out.size))
      have HSc:=hide (HSb.out.next hb)
      clear hT hst hb hcut HBn HSb
      obtain⟨g0,g1⟩:=zr2 ((HKc.out.block _ hGx).trans HGx.out)
      have hGw:G<wc.heap.size:=by have:=HKc.out.size;omega
      have hjc:=HJC.out
      obtain⟨b0,b1,b2,b3,b4⟩:=hjc wc HKc.out
      have hJw:w.heap.size<wc.heap.size:=by have:=HKc.out.size;have:=HJx.out.1;omega
      clear hjc
      obtain⟨d0,d1,d2,d3,d4,d5⟩:=zr6 HT.out
      have hTw:T<wc.heap.size:=lt_of_block HT.out
      go_upto_region 9 with fail
      refine wp_region_held_drew (S:=Kept wc) (by kernel_rfl) (Kept.drew wc) (fun hS0=>?_)
      refine tka 0 48 ?_
      refine tka 1 49 ?_
      refine tka 2 50 ?_
      refine tka 3 51 ?_
      refine tka 4 52 ?_
      refine ck 5 53 fun K hK=>?_
      go_simp
      refine ((HSc.out.next (Below.refl wc.heap.size wc).drew).start k j1 j2 j3 j4 HJB.out).mono ?_
      rintro e z1 ⟨rfl,hz⟩
      have HE1:Hid (Below wc.heap.size wc z1):=hide ((Below.refl wc.heap.size wc).drew.trans (hz.mono (Nat.le_refl _)))
      have hS1:Kept wc z1:=Kept.of_below HE1.out
      clear hz
      go_wp2_with fail
      refine hK.out _ _ hS1 (fun hSn=>?_)
      clear hK K
      try simp only[zqd,zqe,zqf]
      refine tka 6 54 ?_
      refine tka 7 55 ?_
      refine tka 8 56 ?_
      refine tka 9 57 ?_
      refine tka 10 58 ?_
      refine tka 11 59 ?_
      refine tka 12 60 ?_
      refine ck 13 61 fun K hK=>?_
      go_simp
      refine ((HSc.out.next HE1.out).run k j1 j2 j3 j4 HJB.out).mono ?_
      rintro e z2 ⟨rfl,hz⟩
      have HE2:=hide (HE1.out.trans (hz.mono HE1.out.size))
      have hS2:Kept wc z2:=Kept.of_below HE2.out
      clear hz
      go_wp2_with fail
      refine hK.out _ _ hS2 (fun hSn=>?_)
      clear hK K
      try simp only[zqd,zqe,zqf]
      refine tka 14 62 ?_
      refine tka 15 63 ?_
      refine tka 16 64 ?_
      refine tka 17 65 ?_
      refine tka 18 66 ?_
      refine tka 19 67 ?_
      refine tka 20 68 ?_
      refine tka 21 69 ?_
      refine ck 22 70 fun K hK=>?_
      go_simp
      refine ((HSc.out.next HE2.out).goes k j1 j2 j3 j4 HJB.out).mono ?_
      rintro e z3 ⟨rfl,hz⟩
      have HE3:=hide (HE2.out.trans (hz.mono HE2.out.size))
      have hS3:Kept wc z3:=Kept.of_below HE3.out
      clear hz
      go_wp2_with fail
      refine hK.out _ _ hS3 (fun hSn=>?_)
      clear hK K
      try simp only[zqd,zqe,zqf]
      refine tka 23 71 ?_
      refine tka 24 72 ?_
      refine tka 25 73 ?_
      refine tka 26 74 ?_
      refine tka 27 75 ?_
      refine tka 28 76 ?_
      refine tka 29 77 ?_
      refine tka 30 78 ?_
      refine tka 31 79 ?_
      refine ck 32 80 fun K hK=>?_
      go_simp
      refine ((HSc.out.next HE3.out).at_ k j1 j2 j3 j4 HJB.out (n:Int) (by omega) (by omega)).mono ?_
      rintro e z4 ⟨rfl,hz⟩
      have HE4:=hide (HE3.out.trans (hz.mono HE3.out.size))
      have hS4:Kept wc z4:=Kept.of_below HE4.out
      clear hz
      go_wp2_with fail
      refine hK.out _ _ hS4 (fun hSn=>?_)
      clear hK K
      try simp only[zqd,zqe,zqf]
      refine tka 33 81 ?_
      refine tka 34 82 ?_
      refine tka 35 83 ?_
      refine tka 36 84 ?_
      refine tka 37 85 ?_
      refine tka 38 86 ?_
      refine tka 39 87 ?_
      refine tka 40 88 ?_
      refine ck 41 89 fun K hK=>?_
      go_simp
      refine ((HSc.out.next HE4.out).at_ k j1 j2 j3 j4 HJB.out (-1) (by decide) (by decide)).mono ?_
      rintro e z5 ⟨rfl,hz⟩
      have HE5:=hide (HE4.out.trans (hz.mono HE4.out.size))
      have hS5:Kept wc z5:=Kept.of_below HE5.out
      clear hz
      go_wp2_with fail
      refine hK.out _ _ hS5 (fun hSn=>?_)
      clear hK K
      try simp only[zqd,zqe,zqf]
      refine tka 42 90 ?_
      refine tka 43 91 ?_
      refine tka 44 92 ?_
      refine tka 45 93 ?_
      refine tka 46 94 ?_
      refine tka 47 95 ?_
      refine tka 48 96 ?_
      refine tka 49 97 ?_
      refine ck 50 98 fun K hK=>?_
      go_simp
      refine ((HSc.out.next HE5.out).at_ k j1 j2 j3 j4 HJB.out 2001 (by decide) (by decide)).mono ?_
      rintro e z6 ⟨rfl,hz⟩
      have HE6:=hide (HE5.out.trans (hz.mono HE5.out.size))
      have hS6:Kept wc z6:=Kept.of_below HE6.out
      clear hz
      go_wp2_with fail
      refine hK.out _ _ hS6 (fun hSn=>?_)
      clear hK K
      try simp only[zqd,zqe,zqf]
      refine tka 51 99 ?_
      refine tka 52 100 ?_
      refine tka 53 101 ?_
      refine tka 54 102 ?_
      refine tka 55 103 ?_
      refine tka 56 104 ?_
      refine tka 57 105 ?_
      refine tka 58 106 ?_
      refine tka 59 107 ?_
      refine ck 60 108 fun K hK=>?_
      go_simp
      refine ((HSc.out.next HE6.out).step k j1 j2 j3 j4 HJB.out cv cc ci (HST.out.next HE6.out)).mono ?_
      rintro e z7 ⟨rfl,hz⟩
      have HE7:=hide (HE6.out.trans (hz.mono HE6.out.size))
      have hS7:Kept wc z7:=Kept.of_below HE7.out
      clear hz
      go_wp2_with fail
      refine hK.out _ _ hS7 (fun hSn=>?_)
      clear hK K
      try simp only[zqd,zqe,zqf]
      refine tka 61 109 ?_
      refine tka 62 110 ?_
      refine wpAnyH_done (by kernel_rfl) ?_ _
      clear g0 g1 b0 b1 b2 b3 b4 d0 d1 d2 d3 d4 d5 hGw hJw hTw hS0 hS1 hS2 hS3 hS4 hS5 hS6 hS7
      clear HE1 HE2 HE3 HE4 HE5 HE6
      go_wp2
      go_loopw [7] (fun v7 wr=>∃q:Nat,q≤9∧v7 = .int .i64 (q:Int)∧Hid (Below wc.heap.size wc wr)) (fun v7 _=>9-(intOf v7).toNat)
      case atStart=>exact⟨0,by omega,rfl,HE7⟩
      case round=>
       obtain⟨q,hq,rfl,HBq⟩:=hrel
       obtain⟨wd,rfl⟩:∃z:World,z=wr:=⟨_,rfl⟩
       by_cases hlq:q<9
       ·have hq1:(q:Int)<9:=by omega
        have HKd:=hide (HKc.out.trans (HBq.out.mono HKc.out.size))
        have HSd:=hide (HSc.out.next HBq.out)
        have HSTd:=hide (HST.out.next HBq.out)
        have HTd:=hide ((HBq.out.block T hTc).trans HT.out)
        obtain⟨g0,g1⟩:=zr2 ((HKd.out.block _ hGx).trans HGx.out)
        have hGw:G<wd.heap.size:=by have:=HKd.out.size;omega
        have hjc:=HJC.out
        obtain⟨b0,b1,b2,b3,b4⟩:=hjc wd HKd.out
        have hJw:w.heap.size<wd.heap.size:=by have:=HKd.out.size;have:=HJx.out.1;omega
        clear hjc
        obtain⟨d0,d1,d2,d3,d4,d5⟩:=zr6 HTd.out
        have hTw:T<wd.heap.size:=lt_of_block HTd.out
        go_upto_region 14 with fail
        refine wp_region_held_drew (S:=Kept wd) (by kernel_rfl) (Kept.drew wd) (fun hS0=>?_)
        refine tka 0 115 ?_
        refine tka 1 116 ?_
        refine tka 2 117 ?_
        refine tka 3 118 ?_
        refine tka 4 119 ?_
        refine tka 5 120 ?_
        refine tka 6 121 ?_
        refine ck 7 122 fun K hK=>?_
        go_simp
        refine (spoilt_any _ s Av Ac Ai m cv cc ci q hlq hm5 (HSTd.out.next (Below.refl wd.heap.size wd).drew)).mono ?_
        rintro e z1 ⟨q1,A11,A12,A13,m11,m12,m13,c11,c12,c13,rfl,hq1,hz⟩
        have HQ1:=hide hq1
        have HE1:Hid (Below wd.heap.size wd z1):=hide ((Below.refl wd.heap.size wd).drew.trans (hz.mono (Nat.le_refl _)))
        have hS1:Kept wd z1:=Kept.of_below HE1.out
        clear hz hq1
        go_wp2_with fail
        refine hK.out _ _ hS1 (fun hSn=>?_)
        clear hK K
        try simp only[zqd,zqe,zqf]
        refine ck 8 123 fun K hK=>?_
        go_simp
        refine ((HSd.out.next HE1.out).step k j1 j2 j3 j4 HJB.out c11 c12 c13 HQ1.out).mono ?_
        rintro e z2 ⟨rfl,hz⟩
        have HE2:=hide (HE1.out.trans (hz.mono HE1.out.size))
        have hS2:Kept wd z2:=Kept.of_below HE2.out
        clear hz
        go_wp2_with fail
        refine hK.out _ _ hS2 (fun hSn=>?_)
        clear hK K
        try simp only[zqd,zqe,zqf]
        refine tka 9 124 ?_
        refine tka 10 125 ?_
        refine tka 11 126 ?_
        refine tka 12 127 ?_
        refine tka 13 128 ?_
        refine ck 14 129 fun K hK=>?_
        go_simp
        refine (spoilt_any _ s Av Ac Ai m cv cc ci q hlq hm5 (HSTd.out.next HE2.out)).mono ?_
        rintro e z3 ⟨q3,A31,A32,A33,m31,m32,m33,c31,c32,c33,rfl,hq3,hz⟩
        have HQ3:=hide hq3
        have HE3:=hide (HE2.out.trans (hz.mono HE2.out.size))
        have hS3:Kept wd z3:=Kept.of_below HE3.out
        clear hz hq3
        go_wp2_with fail
        refine hK.out _ _ hS3 (fun hSn=>?_)
        clear hK K
        try simp only[zqd,zqe,zqf]
        refine ck 15 130 fun K hK=>?_
        go_simp
        refine (StM.same cv cc ci c31 c32 c33 (HSTd.out.next HE3.out) HQ3.out).mono ?_
        rintro e z4 ⟨rfl,hz⟩
        have HE4:=hide (HE3.out.trans (hz.mono HE3.out.size))
        have hS4:Kept wd z4:=Kept.of_below HE4.out
        clear hz
        go_wp2_with fail
        refine hK.out _ _ hS4 (fun hSn=>?_)
        clear hK K
        try simp only[zqd,zqe,zqf]
        refine tka 16 131 ?_
        refine tka 17 132 ?_
        refine wpAnyH_done (by kernel_rfl) ?_ _
        clear g0 g1 b0 b1 b2 b3 b4 d0 d1 d2 d3 d4 d5 hGw hJw hTw hS0 hS1 hS2 hS3 hS4
        have HBz:=hide (HBq.out.trans (HE4.out.mono HBq.out.size))
        clear HE1 HE2 HE3 HE4 HQ1 HQ3
        go_wp2
        go_roundw
        case rel=>exact⟨q+1,by omega,by go_num,HBz⟩
        case measure=>simp[intOf];omega
       have hq1:¬(q:Int)<9:=by omega
       have HKd:=hide (HKc.out.trans (HBq.out.mono HKc.out.size))
       go_wp2
       go_roundw
       case rel=>exact⟨n+1,by omega,by go_num,HKd⟩
       case measure=>simp[intOf];omega
    have hn1:¬(n:Int)<9:=by omega
    have HF:=hide (HBx.out.trans (HBn.out.mono HBx.out.size))
    go_wp2
    go_roundw
    case rel=>exact⟨i+1,by omega,by go_num,HF⟩
    case measure=>simp[intOf];omega
  have hI1:¬(i:Int)<5:=by omega
  go_wp2_with fail
  refine (last_any wa).mono ?_
  rintro e y4 ⟨s,Av,Ac,Ai,cv,cc,ci,rfl,hs,hst,hz⟩
  have HST:=hide hst
  have HSS:=hide hs
  have HB4:=hide (HBr.out.trans (hz.mono HBr.out.size))
  clear hz hs hst
  go_upto_region 18 with fail
  obtain⟨y5,hy5⟩:∃x,y4.alloc (.cells #[.int .i64 2000,.slice Av 1 cv,.slice Ac 1 cc,.slice Ai 1 ci,.int .i64 s.sm,.int .i64 s.mo] 33)=x:=⟨_,rfl⟩
  have hb5:Below y4.heap.size y4 y5:=by rw[←hy5];exact (Below.refl _ _).alloc (Nat.le_refl _) _
  have hT5:y5.heap[y4.heap.size]?=some (.cells #[.int .i64 2000,.slice Av 1 cv,.slice Ac 1 cc,.slice Ai 1 ci,.int .i64 s.sm,.int .i64 s.mo] 33):=by rw[←hy5];exact heap_alloc_last _ _
  rw[hy5]
  have HST5:=hide (HST.out.next hb5)
  have HB5:=hide (HB4.out.trans (hb5.mono HB4.out.size))
  have hTl:=lt_of_block hT5
  obtain⟨d0,d1,d2,d3,d4,d5⟩:=zr6 hT5
  have HT5:=hide hT5
  clear hy5 hb5 hT5 HST HB4
  go_wp2_with fail
  refine (over_any y5 cv cc ci HST5.out HSS.out).mono ?_
  rintro e y6 ⟨rfl,hz⟩
  have d0':y6.cell? ⟨y4.heap.size,0,none⟩=some (.int .i64 2000):=(hz.cell (p:=⟨y4.heap.size,0,none⟩) hTl).trans d0
  have HB6:=hide (HB5.out.trans (hz.mono HB5.out.size))
  have hTm:y4.heap.size<y6.heap.size:=Nat.lt_of_lt_of_le hTl hz.size
  clear hz d0 d1 d2 d3 d4 d5 hTl
  go_upto_region 19 with fail
  obtain⟨y7,hy7⟩:∃x,y6.alloc (.cells #[.int .i64 0,.slice none 0 0,.slice none 0 0,.slice none 0 0,.int .i64 0,.int .i64 0] 33)=x:=⟨_,rfl⟩
  have hb7:Below y6.heap.size y6 y7:=by rw[←hy7];exact (Below.refl _ _).alloc (Nat.le_refl _) _
  rw[hy7]
  have d0:y7.cell? ⟨y4.heap.size,0,none⟩=some (.int .i64 2000):=(hb7.cell (p:=⟨y4.heap.size,0,none⟩) hTm).trans d0'
  have HB7:=hide (HB6.out.trans (hb7.mono HB6.out.size))
  have hTn:y4.heap.size<y7.heap.size:=Nat.lt_of_lt_of_le hTm hb7.size
  clear hy7 hb7 d0' hTm
  go_wp2_with fail
  refine (works_any y7).mono ?_
  rintro e wz ⟨rfl,hz⟩
  have HF:=hide (HB.out.trans ((HB7.out.trans (hz.mono HB7.out.size)).mono HB.out.size))
  clear hz
  go_wp2
  go_ret
  exact⟨rfl,HF.out⟩
end Go.Proofs.YtpgbjabifhjogaaGreat

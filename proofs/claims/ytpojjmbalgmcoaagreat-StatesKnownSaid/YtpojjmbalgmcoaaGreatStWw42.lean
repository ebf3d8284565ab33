/- Lemmas: Gso. -/
import Derived.Deep.DeepCutAuto
import Derived.Deep.CutBlock
import Derived.Test.YtpojjmbalgmcoaaGreatStWw22
set_option linter.unusedVariables false
set_option linter.unusedSimpArgs false
set_option maxRecDepth 100000
set_option maxHeartbeats 16000000
namespace Go.Proofs.YtpojjmbalgmcoaaGreat
open Go.RowKit
theorem gout_clo (w:World) (B:Nat) (v x y z:Int) (hB:w.cell? ⟨B,0,none⟩=some (.int .i64 v)) (hl:B<w.heap.size) :
  Calls Tryz.prog 103 #[.agg #[.int .i64 x,.int .i64 y,.int .i64 z],.pointer (some ⟨B,0,none⟩)] w fun e w'=>e = .returned (.bool (x == v))∧Below w.heap.size w w':=by
 have HB:=hide (show Below w.heap.size w (w.alloc (.cells #[.int .i64 x,.int .i64 y,.int .i64 z] 57)) from (Below.refl _ _).alloc (Nat.le_refl _) _)
 go_enter Tryz.func103,Tryz.ntmps103
 go_wp2
 go_ret
 exact⟨rfl,HB.out⟩
theorem gout_some (w:World) (V:Int) (A:Option Addr) (es:List Ed) (L c:Nat) (B:Nat) (v:Int) (hL:es.length=L) (hE:Eds w w.heap.size A es) (hc:L≤8192) (hB:w.cell? ⟨B,0,none⟩=some (.int .i64 v)) (hlB:B<w.heap.size) :
  Calls Tryz.prog 102 #[.agg #[.int .i64 V,.slice A L c],.func (.func 103) #[] #[.pointer (some ⟨B,0,none⟩)]] w (RowPost w (fromF es v)):=by
 obtain⟨i0,hi0,hz0,hz1,hz2⟩:=info_parts (show (Tryz.prog.info? 57).map (fun i=>(i.zero,i.size,i.bytes))=some (some (.agg #[.int .i64 0,.int .i64 0,.int .i64 0]),3,24) by kernel_rfl)
 obtain⟨u,hu⟩:∃u,w.alloc (.cells #[.int .i64 V,.slice A L c] 24)=u:=⟨_,rfl⟩
 have hzu:u.heap.size=w.heap.size+1:=by rw[←hu];simp
 have hbu:Below w.heap.size w u:=by rw[←hu];exact (Below.refl _ _).alloc (Nat.le_refl _) _
 have cg:u.heap[w.heap.size]?=some (.cells #[.int .i64 V,.slice A L c] 24):=by rw[←hu];exact heap_alloc_last w _
 have cg1:u.cell? ⟨w.heap.size,1,none⟩=some (.slice A L c):=cell_of_row _ _ 1 _ _ _ cg
 have hlg:w.heap.size<u.heap.size:=by omega
 have HCB:=hide (show u.cell? ⟨B,0,none⟩=some (.int .i64 v) from (hbu.cell (p:=⟨B,0,none⟩) hlB).trans hB)
 have hlBu:B<u.heap.size:=by omega
 have HL:=hide hL
 have EU:=hide (hE.below hbu (Nat.le_refl _))
 have HB:=hide hbu
 have HU:=hide hu
 have HW:=hide (show w.heap.size≤u.heap.size by omega)
 clear hu hzu hbu cg hE hL hB
 go_enter Tryz.func102,Tryz.ntmps102
 go_wp2
 rw[HU.out]
 clear cg1
 go_loopw [5,11] (fun v5 v11 wr=>∃(k n:Nat) (A':Option Addr) (c':Nat),k≤L∧n≤k∧v11 = .int .i64 k∧v5 = .slice A' n c'∧Hid (((es.take k).filter (fun e=>e.1 == v)).length=n)∧Hid (wr.ownsRow u.heap.size 57 3 (.slice A' n c') n (edFlat ((es.take k).filter (fun e=>e.1 == v))))∧Hid (Below u.heap.size u wr)) (fun _ v11 _=>L-(intOf v11).toNat)
 case atStart=>exact⟨0,0,none,0,by omega,by omega,rfl,rfl,hide rfl,hide (World.ownsRow_nil _ _ _ _),hide (Below.refl _ _)⟩
 case round=>
  obtain⟨k,n,A',c',hk,hn,rfl,rfl,hlen,hown,hb1⟩:=hrel
  have hs1:u.heap.size≤wr.heap.size:=hb1.out.size
  by_cases hlt:k<L
  ·obtain⟨⟨x,y,z⟩,he⟩:∃e,es[k]?=some e:=⟨_,List.getElem?_eq_getElem (by rw[HL.out];exact hlt)⟩
   obtain⟨b,off,rfl,hbl,d0,d1,d2,d3,d4⟩:=EU.out.get he
   have d0:=(hb1.out.cell (p:=⟨b,off+k*3,none⟩) (by show b<_;omega)).trans d0
   have d1:=(hb1.out.cell (p:=⟨b,off+k*3+1,none⟩) (by show b<_;omega)).trans d1
   have d2:=(hb1.out.cell (p:=⟨b,off+k*3+2,none⟩) (by show b<_;omega)).trans d2
   have hst:=hide (filt_step (f:=fun e=>e.1 == v) he)
   have hI0:(k:Int)<(L:Int):=by omega
   clear he
   dsimp only at d0 d1 d2 d3 d4
   obtain⟨ws,hws⟩:∃q,wr.alloc (.cells #[.int .i64 x,.int .i64 y,.int .i64 z] 57)=q:=⟨_,rfl⟩
   have hT:ws.heap[wr.heap.size]?=some (.cells #[.int .i64 x,.int .i64 y,.int .i64 z] 57):=by rw[←hws];exact heap_alloc_last _ _
   have HBs:=hide (show Below wr.heap.size wr ws by rw[←hws];exact (Below.refl _ _).alloc (Nat.le_refl _) _)
   have HWS:=hide hws
   have hbt:wr.heap.size<ws.heap.size:=by rw[←hws];simp
   clear hws
   go_upto_region 5 with fail
   rw[HWS.out]
   obtain⟨T,hTe⟩:∃q,wr.heap.size=q:=⟨_,rfl⟩
   rw[hTe] at hT hbt ⊢
   have HT:=hide hT
   have HTe:=hide hTe
   obtain⟨t0,t1,t2⟩:=zr3 hT
   have HB2:=hide (hb1.out.trans (HBs.out.mono hs1))
   have HO2:=hide (own_below hown.out HBs.out (fun g hg=>(hown.out.lt g hg).2))
   have hs2:=HB2.out.size
   have hcl:=gout_clo ws B v x y z ((HB2.out.cell (p:=⟨B,0,none⟩) hlBu).trans HCB.out) (by omega)
   have HCL:=hide hcl
   clear hcl hT hTe d0 d1 d2 HWS hown hb1 HBs
   go_wp2_with fail
   refine HCL.out.mono ?_
   rintro e y1 ⟨rfl,hz⟩
   have HB3:=hide (HB2.out.trans (hz.mono hs2))
   have HO3:=hide (own_below HO2.out hz (fun g hg=>(HO2.out.lt g hg).2))
   have hs3:=HB3.out.size
   have hT1:=(hz.block T hbt).trans HT.out
   have hbt1:T<y1.heap.size:=Nat.lt_of_lt_of_le hbt hz.size
   clear hz HCL t0 t1 t2 HB2 HO2
   obtain⟨t0,t1,t2⟩:=zr3 hT1
   clear hT1
   by_cases hxy:x=v
   ·have hxe:(x == v)=true:=by simpa using hxy
    have hfe:Hid ((es.take (k+1)).filter (fun e=>e.1 == v)=(es.take k).filter (fun e=>e.1 == v) ++ [(x,y,z)]):=hide (by rw[hst.out];simp[hxy])
    clear hxy
    go_wp2_with (at_builtin;refine wpList_app rfl (.tmp 18) (.tmp 20) 22 rfl u.heap.size 57 i0 (.agg #[.int .i64 0,.int .i64 0,.int .i64 0]) 3 24 Tryz.underlying22 hi0 hz0 hz1 hz2 rfl (by decide) (.slice A' n c') n _ rfl (HO3.out.alloc _) (y1.heap.size+1) (some ⟨y1.heap.size,0,none⟩) 1 1 [.int .i64 x,.int .i64 y,.int .i64 z] rfl rfl (Rd.new _ _ _ _) (by simp[Value.oneCell']) (by unfold maxLen;omega) (by omega) (by simp;omega) ?_)
    intro A2 c2 w2 hown2 hg2 hat2
    have ho2:Hid (w2.ownsRow u.heap.size 57 3 (.slice A2 (n+1) c2) (n+1) (edFlat ((es.take (k+1)).filter (fun e=>e.1 == v)))):=hide (by rw[hfe.out,←edFlat_app];exact hown2)
    have hl2:Hid (((es.take (k+1)).filter (fun e=>e.1 == v)).length=n+1):=hide (by rw[hfe.out,List.length_append,hlen.out];rfl)
    have hb2:=hide (app_below (HB3.out.alloc hs3 _) (HO3.out.alloc _) hg2 (by simp;omega) (Nat.le_refl _))
    clear hown2 hg2 hat2 t0 t1 t2
    go_wp2
    go_roundw
    case rel=>exact⟨k+1,n+1,A2,c2,by omega,by omega,by go_num,rfl,hl2,ho2,hb2⟩
    case measure=>simp[intOf];omega
   have hne:(x == v)=false:=by simp only[beq_eq_false_iff_ne,ne_eq];exact hxy
   have hfe:Hid ((es.take (k+1)).filter (fun e=>e.1 == v)=(es.take k).filter (fun e=>e.1 == v)):=hide (by rw[hst.out];simp[hne])
   have ho2:Hid (y1.ownsRow u.heap.size 57 3 (.slice A' n c') n (edFlat ((es.take (k+1)).filter (fun e=>e.1 == v)))):=hide (by rw[hfe.out];exact HO3.out)
   have hl2:Hid (((es.take (k+1)).filter (fun e=>e.1 == v)).length=n):=hide (by rw[hfe.out];exact hlen.out)
   clear hxy t0 t1 t2
   go_wp2
   go_roundw
   case rel=>exact⟨k+1,n,A',c',by omega,by omega,by go_num,rfl,hl2,ho2,HB3⟩
   case measure=>simp[intOf];omega
  obtain rfl:k=L:=by omega
  have hfe:(es.take k).filter (fun e=>e.1 == v)=fromF es v:=by rw[List.take_of_length_le (by rw[HL.out];exact Nat.le_refl _)];rfl
  rw[hfe] at hlen hown
  have HFin:Hid (RowPost w (fromF es v) (.returned (.slice A' n c')) wr):=hide ⟨A',c',by rw[hlen.out],by rw[hlen.out];exact ownsRow_lower hown.out HW.out,HB.out.trans (hb1.out.mono HW.out)⟩
  clear hlen hown hfe
  go_wp2
  go_ret
  exact HFin.out
theorem gout_any (w:World) (V:Int) (A:Option Addr) (es:List Ed) (L c:Nat) (v:Int) (hL:es.length=L) (hE:Eds w w.heap.size A es) (hc:L≤8192) :
  Calls Tryz.prog 92 #[.agg #[.int .i64 V,.slice A L c],.int .i64 v] w (RowPost w (fromF es v)):=by
 obtain⟨u,hu⟩:∃u,(w.alloc (.cells #[.int .i64 V,.slice A L c] 24)).alloc (.cells #[.int .i64 v] 3)=u:=⟨_,rfl⟩
 have hzu:u.heap.size=w.heap.size+2:=by rw[←hu];simp
 have hbu:Below w.heap.size w u:=by rw[←hu];exact ((Below.refl _ _).alloc (Nat.le_refl _) _).alloc (by simp) _
 have cg:u.heap[w.heap.size]?=some (.cells #[.int .i64 V,.slice A L c] 24):=by rw[←hu];exact (Below.heap_alloc _ _ _ (by simp)).trans (heap_alloc_last w _)
 have cv:u.heap[w.heap.size+1]?=some (.cells #[.int .i64 v] 3):=by
  rw[←hu]
  have h:=heap_alloc_last (w.alloc (.cells #[.int .i64 V,.slice A L c] 24)) (.cells #[.int .i64 v] 3)
  rw[World.size_alloc] at h
  exact h
 obtain⟨g0,g1⟩:=zr2 cg
 have HCL:=hide (gout_some u V A es L c (w.heap.size+1) v hL (Els.more (hE.below hbu (Nat.le_refl _)) hbu.size) hc (cell_of_row _ _ 0 _ _ _ cv) (by omega))
 have HB:=hide hbu
 have HU:=hide hu
 have HW:=hide (show w.heap.size≤u.heap.size by omega)
 clear hu hzu hbu cg cv hE hL
 go_enter Tryz.func92,Tryz.ntmps92
 go_upto_region 1 with fail
 rw[HU.out]
 go_wp2_with fail
 refine HCL.out.mono ?_
 rintro e z ⟨A',c',rfl,ho,hz⟩
 have HFin:Hid (RowPost w (fromF es v) (.returned (.slice A' (fromF es v).length c')) z):=hide ⟨A',c',rfl,ownsRow_lower ho HW.out,HB.out.trans (hz.mono HW.out)⟩
 clear ho hz g0 g1 HCL
 go_wp2
 go_ret
 exact HFin.out
theorem gback_clo (w:World) (B:Nat) (v x y z:Int) (hB:w.cell? ⟨B,0,none⟩=some (.int .i64 v)) (hl:B<w.heap.size) :
  Calls Tryz.prog 104 #[.agg #[.int .i64 x,.int .i64 y,.int .i64 z],.pointer (some ⟨B,0,none⟩)] w fun e w'=>e = .returned (.bool (y == v))∧Below w.heap.size w w':=by
 have HB:=hide (show Below w.heap.size w (w.alloc (.cells #[.int .i64 x,.int .i64 y,.int .i64 z] 57)) from (Below.refl _ _).alloc (Nat.le_refl _) _)
 go_enter Tryz.func104,Tryz.ntmps104
 go_wp2
 go_ret
 exact⟨rfl,HB.out⟩
theorem gback_some (w:World) (V:Int) (A:Option Addr) (es:List Ed) (L c:Nat) (B:Nat) (v:Int) (hL:es.length=L) (hE:Eds w w.heap.size A es) (hc:L≤8192) (hB:w.cell? ⟨B,0,none⟩=some (.int .i64 v)) (hlB:B<w.heap.size) :
  Calls Tryz.prog 102 #[.agg #[.int .i64 V,.slice A L c],.func (.func 104) #[] #[.pointer (some ⟨B,0,none⟩)]] w (RowPost w (toF es v)):=by
 obtain⟨i0,hi0,hz0,hz1,hz2⟩:=info_parts (show (Tryz.prog.info? 57).map (fun i=>(i.zero,i.size,i.bytes))=some (some (.agg #[.int .i64 0,.int .i64 0,.int .i64 0]),3,24) by kernel_rfl)
 obtain⟨u,hu⟩:∃u,w.alloc (.cells #[.int .i64 V,.slice A L c] 24)=u:=⟨_,rfl⟩
 have hzu:u.heap.size=w.heap.size+1:=by rw[←hu];simp
 have hbu:Below w.heap.size w u:=by rw[←hu];exact (Below.refl _ _).alloc (Nat.le_refl _) _
 have cg:u.heap[w.heap.size]?=some (.cells #[.int .i64 V,.slice A L c] 24):=by rw[←hu];exact heap_alloc_last w _
 have cg1:u.cell? ⟨w.heap.size,1,none⟩=some (.slice A L c):=cell_of_row _ _ 1 _ _ _ cg
 have hlg:w.heap.size<u.heap.size:=by omega
 have HCB:=hide (show u.cell? ⟨B,0,none⟩=some (.int .i64 v) from (hbu.cell (p:=⟨B,0,none⟩) hlB).trans hB)
 have hlBu:B<u.heap.size:=by omega
 have HL:=hide hL
 have EU:=hide (hE.below hbu (Nat.le_refl _))
 have HB:=hide hbu
 have HU:=hide hu
 have HW:=hide (show w.heap.size≤u.heap.size by omega)
 clear hu hzu hbu cg hE hL hB
 go_enter Tryz.func102,Tryz.ntmps102
 go_wp2
 rw[HU.out]
 clear cg1
 go_loopw [5,11] (fun v5 v11 wr=>∃(k n:Nat) (A':Option Addr) (c':Nat),k≤L∧n≤k∧v11 = .int .i64 k∧v5 = .slice A' n c'∧Hid (((es.take k).filter (fun e=>e.2.1 == v)).length=n)∧Hid (wr.ownsRow u.heap.size 57 3 (.slice A' n c') n (edFlat ((es.take k).filter (fun e=>e.2.1 == v))))∧Hid (Below u.heap.size u wr)) (fun _ v11 _=>L-(intOf v11).toNat)
 case atStart=>exact⟨0,0,none,0,by omega,by omega,rfl,rfl,hide rfl,hide (World.ownsRow_nil _ _ _ _),hide (Below.refl _ _)⟩
 case round=>
  obtain⟨k,n,A',c',hk,hn,rfl,rfl,hlen,hown,hb1⟩:=hrel
  have hs1:u.heap.size≤wr.heap.size:=hb1.out.size
  by_cases hlt:k<L
  ·obtain⟨⟨x,y,z⟩,he⟩:∃e,es[k]?=some e:=⟨_,List.getElem?_eq_getElem (by rw[HL.out];exact hlt)⟩
   obtain⟨b,off,rfl,hbl,d0,d1,d2,d3,d4⟩:=EU.out.get he
   have d0:=(hb1.out.cell (p:=⟨b,off+k*3,none⟩) (by show b<_;omega)).trans d0
   have d1:=(hb1.out.cell (p:=⟨b,off+k*3+1,none⟩) (by show b<_;omega)).trans d1
   have d2:=(hb1.out.cell (p:=⟨b,off+k*3+2,none⟩) (by show b<_;omega)).trans d2
   have hst:=hide (filt_step (f:=fun e=>e.2.1 == v) he)
   have hI0:(k:Int)<(L:Int):=by omega
   clear he
   dsimp only at d0 d1 d2 d3 d4
   obtain⟨ws,hws⟩:∃q,wr.alloc (.cells #[.int .i64 x,.int .i64 y,.int .i64 z] 57)=q:=⟨_,rfl⟩
   have hT:ws.heap[wr.heap.size]?=some (.cells #[.int .i64 x,.int .i64 y,.int .i64 z] 57):=by rw[←hws];exact heap_alloc_last _ _
   have HBs:=hide (show Below wr.heap.size wr ws by rw[←hws];exact (Below.refl _ _).alloc (Nat.le_refl _) _)
   have HWS:=hide hws
   have hbt:wr.heap.size<ws.heap.size:=by rw[←hws];simp
   clear hws
   go_upto_region 5 with fail
   rw[HWS.out]
   obtain⟨T,hTe⟩:∃q,wr.heap.size=q:=⟨_,rfl⟩
   rw[hTe] at hT hbt ⊢
   have HT:=hide hT
   have HTe:=hide hTe
   obtain⟨t0,t1,t2⟩:=zr3 hT
   have HB2:=hide (hb1.out.trans (HBs.out.mono hs1))
   have HO2:=hide (own_below hown.out HBs.out (fun g hg=>(hown.out.lt g hg).2))
   have hs2:=HB2.out.size
   have hcl:=gback_clo ws B v x y z ((HB2.out.cell (p:=⟨B,0,none⟩) hlBu).trans HCB.out) (by omega)
   have HCL:=hide hcl
   clear hcl hT hTe d0 d1 d2 HWS hown hb1 HBs
   go_wp2_with fail
   refine HCL.out.mono ?_
   rintro e y1 ⟨rfl,hz⟩
   have HB3:=hide (HB2.out.trans (hz.mono hs2))
   have HO3:=hide (own_below HO2.out hz (fun g hg=>(HO2.out.lt g hg).2))
   have hs3:=HB3.out.size
   have hT1:=(hz.block T hbt).trans HT.out
   have hbt1:T<y1.heap.size:=Nat.lt_of_lt_of_le hbt hz.size
   clear hz HCL t0 t1 t2 HB2 HO2
   obtain⟨t0,t1,t2⟩:=zr3 hT1
   clear hT1
   by_cases hxy:y=v
   ·have hxe:(y == v)=true:=by simpa using hxy
    have hfe:Hid ((es.take (k+1)).filter (fun e=>e.2.1 == v)=(es.take k).filter (fun e=>e.2.1 == v) ++ [(x,y,z)]):=hide (by rw[hst.out];simp[hxy])
    clear hxy
    go_wp2_with (at_builtin;refine wpList_app rfl (.tmp 18) (.tmp 20) 22 rfl u.heap.size 57 i0 (.agg #[.int .i64 0,.int .i64 0,.int .i64 0]) 3 24 Tryz.underlying22 hi0 hz0 hz1 hz2 rfl (by decide) (.slice A' n c') n _ rfl (HO3.out.alloc _) (y1.heap.size+1) (some ⟨y1.heap.size,0,none⟩) 1 1 [.int .i64 x,.int .i64 y,.int .i64 z] rfl rfl (Rd.new _ _ _ _) (by simp[Value.oneCell']) (by unfold maxLen;omega) (by omega) (by simp;omega) ?_)
    intro A2 c2 w2 hown2 hg2 hat2
    have ho2:Hid (w2.ownsRow u.heap.size 57 3 (.slice A2 (n+1) c2) (n+1) (edFlat ((es.take (k+1)).filter (fun e=>e.2.1 == v)))):=hide (by rw[hfe.out,←edFlat_app];exact hown2)
    have hl2:Hid (((es.take (k+1)).filter (fun e=>e.2.1 == v)).length=n+1):=hide (by rw[hfe.out,List.length_append,hlen.out];rfl)
    have hb2:=hide (app_below (HB3.out.alloc hs3 _) (HO3.out.alloc _) hg2 (by simp;omega) (Nat.le_refl _))
    clear hown2 hg2 hat2 t0 t1 t2
    go_wp2
    go_roundw
    case rel=>exact⟨k+1,n+1,A2,c2,by omega,by omega,by go_num,rfl,hl2,ho2,hb2⟩
    case measure=>simp[intOf];omega
   have hne:(y == v)=false:=by simp only[beq_eq_false_iff_ne,ne_eq];exact hxy
   have hfe:Hid ((es.take (k+1)).filter (fun e=>e.2.1 == v)=(es.take k).filter (fun e=>e.2.1 == v)):=hide (by rw[hst.out];simp[hne])
   have ho2:Hid (y1.ownsRow u.heap.size 57 3 (.slice A' n c') n (edFlat ((es.take (k+1)).filter (fun e=>e.2.1 == v)))):=hide (by rw[hfe.out];exact HO3.out)
   have hl2:Hid (((es.take (k+1)).filter (fun e=>e.2.1 == v)).length=n):=hide (by rw[hfe.out];exact hlen.out)
   clear hxy t0 t1 t2
   go_wp2
   go_roundw
   case rel=>exact⟨k+1,n,A',c',by omega,by omega,by go_num,rfl,hl2,ho2,HB3⟩
   case measure=>simp[intOf];omega
  obtain rfl:k=L:=by omega
  have hfe:(es.take k).filter (fun e=>e.2.1 == v)=toF es v:=by rw[List.take_of_length_le (by rw[HL.out];exact Nat.le_refl _)];rfl
  rw[hfe] at hlen hown
  have HFin:Hid (RowPost w (toF es v) (.returned (.slice A' n c')) wr):=hide ⟨A',c',by rw[hlen.out],by rw[hlen.out];exact ownsRow_lower hown.out HW.out,HB.out.trans (hb1.out.mono HW.out)⟩
  clear hlen hown hfe
  go_wp2
  go_ret
  exact HFin.out
theorem gback_any (w:World) (V:Int) (A:Option Addr) (es:List Ed) (L c:Nat) (v:Int) (hL:es.length=L) (hE:Eds w w.heap.size A es) (hc:L≤8192) :
  Calls Tryz.prog 93 #[.agg #[.int .i64 V,.slice A L c],.int .i64 v] w (RowPost w (toF es v)):=by
 obtain⟨u,hu⟩:∃u,(w.alloc (.cells #[.int .i64 V,.slice A L c] 24)).alloc (.cells #[.int .i64 v] 3)=u:=⟨_,rfl⟩
 have hzu:u.heap.size=w.heap.size+2:=by rw[←hu];simp
 have hbu:Below w.heap.size w u:=by rw[←hu];exact ((Below.refl _ _).alloc (Nat.le_refl _) _).alloc (by simp) _
 have cg:u.heap[w.heap.size]?=some (.cells #[.int .i64 V,.slice A L c] 24):=by rw[←hu];exact (Below.heap_alloc _ _ _ (by simp)).trans (heap_alloc_last w _)
 have cv:u.heap[w.heap.size+1]?=some (.cells #[.int .i64 v] 3):=by
  rw[←hu]
  have h:=heap_alloc_last (w.alloc (.cells #[.int .i64 V,.slice A L c] 24)) (.cells #[.int .i64 v] 3)
  rw[World.size_alloc] at h
  exact h
 obtain⟨g0,g1⟩:=zr2 cg
 have HCL:=hide (gback_some u V A es L c (w.heap.size+1) v hL (Els.more (hE.below hbu (Nat.le_refl _)) hbu.size) hc (cell_of_row _ _ 0 _ _ _ cv) (by omega))
 have HB:=hide hbu
 have HU:=hide hu
 have HW:=hide (show w.heap.size≤u.heap.size by omega)
 clear hu hzu hbu cg cv hE hL
 go_enter Tryz.func93,Tryz.ntmps93
 go_upto_region 1 with fail
 rw[HU.out]
 go_wp2_with fail
 refine HCL.out.mono ?_
 rintro e z ⟨A',c',rfl,ho,hz⟩
 have HFin:Hid (RowPost w (toF es v) (.returned (.slice A' (toF es v).length c')) z):=hide ⟨A',c',rfl,ownsRow_lower ho HW.out,HB.out.trans (hz.mono HW.out)⟩
 clear ho hz g0 g1 HCL
 go_wp2
 go_ret
 exact HFin.out
end Go.Proofs.YtpojjmbalgmcoaaGreat

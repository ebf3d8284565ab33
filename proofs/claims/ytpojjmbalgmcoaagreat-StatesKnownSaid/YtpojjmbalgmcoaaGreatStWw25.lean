/- Lemmas: Rpt. -/
import Derived.Test.YtpojjmbalgmcoaaGreatProg
import Derived.Lib.Hide
import Derived.WalkSpells
import Derived.WalkMore
import Derived.IntWalk
import Derived.Test.YtpojjmbalgmcoaaGreatStWw5
import Derived.Test.YtpojjmbalgmcoaaGreatStWw6
import Derived.Test.YtpojjmbalgmcoaaGreatStWw24
set_option linter.unusedVariables false
set_option linter.unusedSimpArgs false
set_option maxRecDepth 100000
set_option maxHeartbeats 16000000
namespace Go.Proofs.YtpojjmbalgmcoaaGreat
open Go.RowKit
theorem rput_bad (w:World) (p:SPart) (Ao Av Ac Ai:Option Addr) (no nv nc ni co cv cc ci:Nat) (hlen:SLen p no nv nc ni) (bn:no≤9223372036854775807) (hin:SIn w p Ao Av Ac Ai) (hr:rightB p=false) :
  Calls Tryz.prog 36 #[.agg #[.int .i64 p.step,.slice Ao no co,.slice Av nv cv,.slice Ac nc cc,.slice Ai ni ci]] w (PutPost w [] 4):=by
 obtain⟨u,hu⟩:∃u,w.alloc (.cells #[.int .i64 p.step,.slice Ao no co,.slice Av nv cv,.slice Ac nc cc,.slice Ai ni ci] 64)=u:=⟨_,rfl⟩
 have hbu:Hid (Below w.heap.size w u):=hide (by rw[←hu];exact (Below.refl _ _).alloc (Nat.le_refl _) _)
 have HI:=hide (hin.next hbu.out)
 have HU:=hide hu
 have HR:=hide hr
 have HLen:=hide hlen
 clear hu hin hr hlen
 go_enter Tryz.func36,Tryz.ntmps36
 go_wp2_with fail
 rw[HU.out]
 refine (rright_any u p Ao Av Ac Ai no nv nc ni co cv cc ci HLen.out bn HI.out).mono ?_
 rintro e y1 ⟨rfl,k1⟩
 rw[HR.out]
 have HB1:=hide (hbu.out.trans (k1.mono hbu.out.size))
 clear k1
 go_wp2
 go_ret2
 exact⟨none,0,0,rfl,rfl,Rd.nil_,by omega,by omega,HB1.out⟩
theorem rput_ok (w:World) (p:SPart) (Ao Av Ac Ai:Option Addr) (no nv nc ni co cv cc ci:Nat) (hlen:SLen p no nv nc ni) (bn:no≤2000) (hin:SIn w p Ao Av Ac Ai) (hr:rightB p=true) :
  Calls Tryz.prog 36 #[.agg #[.int .i64 p.step,.slice Ao no co,.slice Av nv cv,.slice Ac nc cc,.slice Ai ni ci]] w (PutPost w (putB p) 0):=by
 obtain⟨i0,hi0,hz0,hz1,hz2⟩:=info_parts (show (Tryz.prog.info? 5).map (fun i=>(i.zero,i.size,i.bytes))=some (some (.int .u8 0),1,1) by kernel_rfl)
 obtain⟨q1,q2,q3,q4,q5,hrl⟩:=right_parts hr
 obtain rfl:nv=no:=by have:=hlen.1;have:=hlen.2.1;omega
 obtain rfl:nc=nv:=by have:=hlen.1;have:=hlen.2.2.1;omega
 obtain rfl:ni=nc:=by have:=hlen.1;have:=hlen.2.2.2;omega
 obtain⟨s,hs⟩:=Int.eq_ofNat_of_zero_le q1
 obtain⟨n,rfl⟩:∃n,n=ni:=⟨_,rfl⟩
 rw[hs]
 obtain⟨u,hu⟩:∃u,w.alloc (.cells #[.int .i64 (s:Int),.slice Ao n co,.slice Av n cv,.slice Ac n cc,.slice Ai n ci] 64)=u:=⟨_,rfl⟩
 have hbu:Hid (Below w.heap.size w u):=hide (by rw[←hu];exact (Below.refl _ _).alloc (Nat.le_refl _) _)
 have hcu:Hid (u.heap[w.heap.size]?=some (.cells #[.int .i64 (s:Int),.slice Ao n co,.slice Av n cv,.slice Ac n cc,.slice Ai n ci] 64)):=hide (by rw[←hu];exact heap_alloc_last _ _)
 have hwu:w.heap.size<u.heap.size:=by rw[←hu];simp
 have HI2:=hide (hin.next hbu.out)
 have HU:=hide hu
 have HR:=hide hr
 have HRt:=hide hrl
 have HLen:=hide hlen
 have HS:=hide hs
 have hs2:s≤2000:=by omega
 have E1:=hide (show u.cell? ⟨w.heap.size,1,none⟩=some (.slice Ao n co) from cell_of_row _ _ 1 _ _ _ hcu.out)
 have E2:=hide (show u.cell? ⟨w.heap.size,2,none⟩=some (.slice Av n cv) from cell_of_row _ _ 2 _ _ _ hcu.out)
 have E3:=hide (show u.cell? ⟨w.heap.size,3,none⟩=some (.slice Ac n cc) from cell_of_row _ _ 3 _ _ _ hcu.out)
 have E4:=hide (show u.cell? ⟨w.heap.size,4,none⟩=some (.slice Ai n ci) from cell_of_row _ _ 4 _ _ _ hcu.out)
 clear hu hin hr hlen hrl q1 q2 q3 q4 q5 hs
 go_enter Tryz.func36,Tryz.ntmps36
 go_wp2_with fail
 rw[HU.out]
 have hcall:=rright_any u p Ao Av Ac Ai n n n n co cv cc ci HLen.out (by omega) HI2.out
 rw[HS.out] at hcall
 refine hcall.mono ?_
 clear hcall
 rintro e ws ⟨rfl,k1⟩
 rw[HR.out]
 have hsu:=hide k1
 have hsw:u.heap.size≤ws.heap.size:=k1.size
 have e0:ws.cell? ⟨w.heap.size,0,none⟩=some (.int .i64 (s:Int)):=(k1.cell (p:=⟨w.heap.size,0,none⟩) hwu).trans (cell_of_row _ _ 0 _ _ _ hcu.out)
 have e1:=(k1.cell (p:=⟨w.heap.size,1,none⟩) hwu).trans E1.out
 have hlw:w.heap.size<ws.heap.size:=by omega
 have ws1:IntKind.u64.wrap (s:Int)=(s:Int):=IntWalk.u64_in _ (by omega)
 have ws2:IntKind.u64.wrap (n:Int)=(n:Int):=IntWalk.u64_in _ (by omega)
 clear k1
 go_wp2
 refine wpL_region (S:=Kept ws) [9] (by kernel_rfl) (Kept.drew ws) (fun hS0=>?_)
 refine twa 0 10 ?_
 refine tua [1,2,3,8,9,10] 1 11 ?_
 refine twa 2 12 ?_
 refine twa 4 14 ?_
 refine tua [5,6,7,8,9,10] 5 15 ?_
 refine twa 6 16 ?_
 refine twa 7 17 ?_
 refine cl 3 13 fun K hK=>?_
 go_simp
 refine (number4 _ s (by omega)).mono ?_
 rintro e z1 ⟨A1,c1,rfl,o1,b1⟩
 have hS1:Kept ws z1:=hS0.below (by simp) b1
 have O1:=hide o1
 have B1:=hide (below_start b1)
 have z1s:ws.heap.size≤z1.heap.size:=by have:=b1.size;simpa using this
 clear o1 b1
 go_wp2_with fail
 refine hK.out _ _ hS1 (fun hSn=>?_)
 clear hK K
 try simp only[zqd,zqe,zqf]
 refine cl 8 18 fun K hK=>?_
 go_simp
 refine (number2 _ n (by omega)).mono ?_
 rintro e z2 ⟨A2,c2,rfl,o2,b2⟩
 have hS2:Kept ws z2:=hS1.below z1s b2
 have O2:=hide o2
 have B2:=hide b2
 have z2s:z1.heap.size≤z2.heap.size:=b2.size
 clear o2 b2
 go_wp2_with fail
 refine hK.out _ _ hS2 (fun hSn=>?_)
 clear hK K
 try simp only[zqd,zqe,zqf]
 refine xl 9 fun K hK=>?_
 have own2:Hid (z2.ownsRow u.heap.size 5 1 (.slice A1 4 c1) 4 (u8s (be 4 s))):=hide (own_base (own_all O1.out B2.out (Nat.le_refl _)) (by simp;omega))
 refine op_ap1 (.tmp 13) (.tmp 18) 45 rfl u.heap.size 5 i0 (.int .u8 0) 1 1 Tryz.underlying45 hi0 hz0 hz1 hz2 rfl (by decide) (.slice A1 4 c1) 4 _ rfl own2.out z2.heap.size A2 2 c2 (u8s (be 2 n)) rfl (by simp[u8s_len,be_len]) (Rd.of_own O2.out) (u8s_one _) (by unfold maxLen;omega) (by omega) (by omega) ?_
 intro A' c' z3 own3 hg3 hat3
 rw[u8s_append] at own3
 have HO3:=hide own3
 have HB3:=hide (app_below ((hsu.out.trans (B1.out.mono hsu.out.size)).trans (B2.out.mono (by omega))) own2.out hg3 (by omega) (Nat.le_refl _))
 clear own3 hg3 hat3 own2
 refine hK.out _ _ ?_
 clear hK K
 simp only[Act.put]
 try simp only[zqd,zqe,zqf]
 refine twa 10 4 ?_
 refine wpAnyL_done (by kernel_rfl) ?_ _
 clear hS0 hS1 hS2 hSn e0 e1 ws1 ws2
 have HO0:Hid (z3.ownsRow u.heap.size 5 1 (.slice A' (4+2) c') (4+2) (u8s (headB p ++ rowsB p 0))):=hide (by
  have:=HO3.out
  rw[headB,HS.out,HLen.out.1,Int.toNat_natCast]
  simpa [rowsB] using this)
 clear O1 O2 B1 B2 HO3
 go_wp2
 go_loopw [4,5] (fun v4 v5 wr=>∃(i q:Nat) (A:Option Addr) (d:Nat),i≤n∧q≤6+19*i∧v5 = .int .i64 i∧v4 = .slice A q d∧Hid (wr.ownsRow u.heap.size 5 1 (.slice A q d) q (u8s (headB p ++ rowsB p i)))∧Hid (Below u.heap.size u wr)) (fun _ v5 _=>n-(intOf v5).toNat)
 case atStart=>exact⟨0,4+2,A',c',by omega,by omega,rfl,rfl,HO0,HB3⟩
 case round=>
  clear HO0 HB3
  obtain⟨i,q,A,d,hi,hq,rfl,rfl,HO,HBr⟩:=hrel
  have hus:u.heap.size≤wr.heap.size:=HBr.out.size
  have e1:=(HBr.out.cell (p:=⟨w.heap.size,1,none⟩) hwu).trans E1.out
  by_cases hlt:i<n
  ·obtain⟨v,hv⟩:∃v,p.own[i]?=some v:=⟨_,List.getElem?_eq_getElem (by rw[HLen.out.1];exact hlt)⟩
   obtain⟨x,hx⟩:∃x,p.vals[i]?=some x:=⟨_,List.getElem?_eq_getElem (by rw[HLen.out.2.1];exact hlt)⟩
   obtain⟨c,hc⟩:∃c,p.chg[i]?=some c:=⟨_,List.getElem?_eq_getElem (by rw[HLen.out.2.2.1];exact hlt)⟩
   obtain⟨⟨h,y⟩,hm⟩:∃m,p.inb[i]?=some m:=⟨_,List.getElem?_eq_getElem (by rw[HLen.out.2.2.2];exact hlt)⟩
   obtain⟨r1,r2,r3,r4,r5⟩:=right_elem HRt.out (by omega) hv hx hm
   obtain⟨bo,oo,rfl,lo,dv⟩:=HI2.out.own.at1 (i64s_get hv)
   obtain⟨bv,ov,rfl,lv,dx⟩:=HI2.out.vals.at1 (i64s_get hx)
   obtain⟨bc,oc,rfl,lc,dc⟩:=HI2.out.chg.at1 (show (bools p.chg)[i]?=some (.bool c) by simp[bools,hc])
   obtain⟨bi,oi,rfl,li,dm,dy⟩:=HI2.out.inb.ml hm
   dsimp only at dm dy r5
   obtain⟨v,rfl⟩:=Int.eq_ofNat_of_zero_le r1
   obtain⟨x,rfl⟩:=Int.eq_ofNat_of_zero_le r3
   have hI0:(0:Int)≤(i:Int):=by omega
   have hI1:(i:Int)<(n:Int):=by omega
   have HOw:=hide hv;have HVa:=hide hx;have HCh:=hide hc;have HIn:=hide hm
   have FX:=hide dx
   have FC:=hide dc
   have FM:=hide dm
   have FY:=hide dy
   have f0:=(HBr.out.cell (p:=⟨bo,oo+i,none⟩) lo).trans dv
   obtain⟨out,ho⟩:∃o,headB p ++ rowsB p i=o:=⟨_,rfl⟩
   have HOut:=hide ho
   rw[ho] at HO
   clear ho hv hx hc hm dv dx dc dm dy r1 r3
   rcases c with _ | _ <;> rcases h with _ | _
   ·have HSN:=hide (rowsB_snoc HOw.out HVa.out HCh.out HIn.out)
    go_wp2_with fail
    refine (number2 _ v (by omega)).mono ?_
    rintro e y1 ⟨A1,d1,rfl,o1,b1⟩
    have own1:=own_all HO.out b1 (Nat.le_refl _)
    have hy1:=b1.size
    have BB1:=HBr.out.trans (b1.mono hus)
    go_wp2_with (at_builtin;refine wpList_app rfl (.tmp 27) (.tmp 34) 45 rfl u.heap.size 5 i0 (.int .u8 0) 1 1 Tryz.underlying45 hi0 hz0 hz1 hz2 rfl (by decide) (.slice A q d) q _ rfl own1 y1.heap.size A1 2 d1 (u8s (be 2 v)) rfl (by simp[u8s_len,be_len]) (Rd.of_own o1) (by first | exact u8s_one _ | simp[Value.oneCell']) (by unfold maxLen;omega) (by omega) (by first | omega | (simp;omega)) ?_)
    intro A2 d2 y2 own2 hg2 hat2
    rw[u8s_append] at own2
    have HO2:=hide own2
    have HB2:=hide (app_below BB1 own1 hg2 (by omega) (Nat.le_refl _))
    have hy2:=hg2.size
    clear own1 own2 hg2 hat2 o1 b1 BB1 e1 f0 HO HBr
    have e2:=(HB2.out.cell (p:=⟨w.heap.size,2,none⟩) hwu).trans E2.out
    have f1:=(HB2.out.cell (p:=⟨bv,ov+i,none⟩) lv).trans FX.out
    go_wp2_with fail
    refine (number8 _ x (by omega)).mono ?_
    rintro e y3 ⟨A3,d3,rfl,o3,b3⟩
    have own3:=own_all HO2.out b3 (Nat.le_refl _)
    have hy3:=b3.size
    have BB3:=HB2.out.trans (b3.mono (by omega))
    go_wp2_with (at_builtin;refine wpList_app rfl (.tmp 36) (.tmp 43) 45 rfl u.heap.size 5 i0 (.int .u8 0) 1 1 Tryz.underlying45 hi0 hz0 hz1 hz2 rfl (by decide) (.slice A2 (q+2) d2) (q+2) _ rfl own3 y3.heap.size A3 8 d3 (u8s (be 8 x)) rfl (by simp[u8s_len,be_len]) (Rd.of_own o3) (by first | exact u8s_one _ | simp[Value.oneCell']) (by unfold maxLen;omega) (by omega) (by first | omega | (simp;omega)) ?_)
    intro A4 d4 y4 own4 hg4 hat4
    rw[u8s_append] at own4
    have HO4:=hide own4
    have HB4:=hide (app_below BB3 own3 hg4 (by omega) (Nat.le_refl _))
    have hy4:=hg4.size
    clear own3 own4 hg4 hat4 o3 b3 BB3 e2 f1 HO2 HB2
    have e3:=(HB4.out.cell (p:=⟨w.heap.size,3,none⟩) hwu).trans E3.out
    have e4:=(HB4.out.cell (p:=⟨w.heap.size,4,none⟩) hwu).trans E4.out
    have f2:=(HB4.out.cell (p:=⟨bc,oc+i,none⟩) lc).trans FC.out
    have f3:=(HB4.out.cell (p:=⟨bi,oi+i*2,none⟩) li).trans FM.out
    go_wp2_with (at_builtin;refine wpList_app rfl (.tmp 57) (.tmp 59) 45 rfl u.heap.size 5 i0 (.int .u8 0) 1 1 Tryz.underlying45 hi0 hz0 hz1 hz2 rfl (by decide) (.slice A4 (q+2+8) d4) (q+2+8) _ rfl (HO4.out.alloc _) (y4.heap.size+1) (some ⟨y4.heap.size,0,none⟩) 1 1 [.int .u8 0] rfl (by simp[u8s_len,be_len]) (Rd.new _ _ _ _) (by first | exact u8s_one _ | simp[Value.oneCell']) (by unfold maxLen;omega) (by omega) (by first | omega | (simp;omega)) ?_)
    intro A5 d5 y5 own5 hg5 hat5
    have HO5:Hid (y5.ownsRow u.heap.size 5 1 (.slice A5 (q+2+8+1) d5) (q+2+8+1) (u8s (((out ++ be 2 v) ++ be 8 x) ++ be 1 0))):=hide (by have:=own5;rw[show [Value.int .u8 0]=u8s (be 1 0) from rfl] at this;simpa only [u8s_append,List.append_assoc] using this)
    have HB5:=hide (app_below (HB4.out.alloc (by omega) _) (HO4.out.alloc _) hg5 (by simp;omega) (Nat.le_refl _))
    have hy5:=hg5.size
    simp only[World.size_alloc] at hy5
    clear own5 hg5 hat5 e3 f2 f3 HO4 HB4
    have HOF:Hid (y5.ownsRow u.heap.size 5 1 (.slice A5 (q+2+8+1) d5) (q+2+8+1) (u8s (headB p ++ rowsB p (i+1)))):=hide (by rw[HSN.out,←List.append_assoc,HOut.out];have:=HO5.out;simp only[vB,flagOf,Int.toNat_natCast] at this ⊢;simpa using this)
    clear e4
    go_wp2
    go_roundw
    case rel=>first | exact⟨i+1,q+2+8+1,A5,d5,by omega,by omega,by go_num,rfl,HOF,HB5⟩ | ((repeat apply Exists.intro);exact⟨⟨i+1,q+2+8+1,A5,d5,by omega,by omega,by go_num,rfl,HOF,HB5⟩,rfl⟩)
    case measure=>simp[intOf];omega
   ·have r6:=r5 rfl
    obtain⟨y,rfl⟩:=Int.eq_ofNat_of_zero_le r6.1
    have r7:=r6.2
    clear r5 r6
    have HSN:=hide (rowsB_snoc HOw.out HVa.out HCh.out HIn.out)
    go_wp2_with fail
    refine (number2 _ v (by omega)).mono ?_
    rintro e y1 ⟨A1,d1,rfl,o1,b1⟩
    have own1:=own_all HO.out b1 (Nat.le_refl _)
    have hy1:=b1.size
    have BB1:=HBr.out.trans (b1.mono hus)
    go_wp2_with (at_builtin;refine wpList_app rfl (.tmp 27) (.tmp 34) 45 rfl u.heap.size 5 i0 (.int .u8 0) 1 1 Tryz.underlying45 hi0 hz0 hz1 hz2 rfl (by decide) (.slice A q d) q _ rfl own1 y1.heap.size A1 2 d1 (u8s (be 2 v)) rfl (by simp[u8s_len,be_len]) (Rd.of_own o1) (by first | exact u8s_one _ | simp[Value.oneCell']) (by unfold maxLen;omega) (by omega) (by first | omega | (simp;omega)) ?_)
    intro A2 d2 y2 own2 hg2 hat2
    rw[u8s_append] at own2
    have HO2:=hide own2
    have HB2:=hide (app_below BB1 own1 hg2 (by omega) (Nat.le_refl _))
    have hy2:=hg2.size
    clear own1 own2 hg2 hat2 o1 b1 BB1 e1 f0 HO HBr
    have e2:=(HB2.out.cell (p:=⟨w.heap.size,2,none⟩) hwu).trans E2.out
    have f1:=(HB2.out.cell (p:=⟨bv,ov+i,none⟩) lv).trans FX.out
    go_wp2_with fail
    refine (number8 _ x (by omega)).mono ?_
    rintro e y3 ⟨A3,d3,rfl,o3,b3⟩
    have own3:=own_all HO2.out b3 (Nat.le_refl _)
    have hy3:=b3.size
    have BB3:=HB2.out.trans (b3.mono (by omega))
    go_wp2_with (at_builtin;refine wpList_app rfl (.tmp 36) (.tmp 43) 45 rfl u.heap.size 5 i0 (.int .u8 0) 1 1 Tryz.underlying45 hi0 hz0 hz1 hz2 rfl (by decide) (.slice A2 (q+2) d2) (q+2) _ rfl own3 y3.heap.size A3 8 d3 (u8s (be 8 x)) rfl (by simp[u8s_len,be_len]) (Rd.of_own o3) (by first | exact u8s_one _ | simp[Value.oneCell']) (by unfold maxLen;omega) (by omega) (by first | omega | (simp;omega)) ?_)
    intro A4 d4 y4 own4 hg4 hat4
    rw[u8s_append] at own4
    have HO4:=hide own4
    have HB4:=hide (app_below BB3 own3 hg4 (by omega) (Nat.le_refl _))
    have hy4:=hg4.size
    clear own3 own4 hg4 hat4 o3 b3 BB3 e2 f1 HO2 HB2
    have e3:=(HB4.out.cell (p:=⟨w.heap.size,3,none⟩) hwu).trans E3.out
    have e4:=(HB4.out.cell (p:=⟨w.heap.size,4,none⟩) hwu).trans E4.out
    have f2:=(HB4.out.cell (p:=⟨bc,oc+i,none⟩) lc).trans FC.out
    have f3:=(HB4.out.cell (p:=⟨bi,oi+i*2,none⟩) li).trans FM.out
    go_wp2_with (at_builtin;refine wpList_app rfl (.tmp 61) (.tmp 64) 45 rfl u.heap.size 5 i0 (.int .u8 0) 1 1 Tryz.underlying45 hi0 hz0 hz1 hz2 rfl (by decide) (.slice A4 (q+2+8) d4) (q+2+8) _ rfl (HO4.out.alloc _) (y4.heap.size+1) (some ⟨y4.heap.size,0,none⟩) 1 1 [.int .u8 2] rfl (by simp[u8s_len,be_len]) (Rd.new _ _ _ _) (by first | exact u8s_one _ | simp[Value.oneCell']) (by unfold maxLen;omega) (by omega) (by first | omega | (simp;omega)) ?_)
    intro A5 d5 y5 own5 hg5 hat5
    have HO5:Hid (y5.ownsRow u.heap.size 5 1 (.slice A5 (q+2+8+1) d5) (q+2+8+1) (u8s (((out ++ be 2 v) ++ be 8 x) ++ be 1 2))):=hide (by have:=own5;rw[show [Value.int .u8 2]=u8s (be 1 2) from rfl] at this;simpa only [u8s_append,List.append_assoc] using this)
    have HB5:=hide (app_below (HB4.out.alloc (by omega) _) (HO4.out.alloc _) hg5 (by simp;omega) (Nat.le_refl _))
    have hy5:=hg5.size
    simp only[World.size_alloc] at hy5
    clear own5 hg5 hat5 e3 f2 f3 HO4 HB4
    have e4:=(HB5.out.cell (p:=⟨w.heap.size,4,none⟩) hwu).trans E4.out
    have f4:=(HB5.out.cell (p:=⟨bi,oi+i*2+1,none⟩) li).trans FY.out
    go_wp2_with fail
    refine (number8 _ y (by omega)).mono ?_
    rintro e y6 ⟨A6,d6,rfl,o6,b6⟩
    have own6:=own_all HO5.out b6 (Nat.le_refl _)
    have hy6:=b6.size
    have BB6:=HB5.out.trans (b6.mono (by omega))
    go_wp2_with (at_builtin;refine wpList_app rfl (.tmp 66) (.tmp 74) 45 rfl u.heap.size 5 i0 (.int .u8 0) 1 1 Tryz.underlying45 hi0 hz0 hz1 hz2 rfl (by decide) (.slice A5 (q+2+8+1) d5) (q+2+8+1) _ rfl own6 y6.heap.size A6 8 d6 (u8s (be 8 y)) rfl (by simp[u8s_len,be_len]) (Rd.of_own o6) (by first | exact u8s_one _ | simp[Value.oneCell']) (by unfold maxLen;omega) (by omega) (by first | omega | (simp;omega)) ?_)
    intro A7 d7 y7 own7 hg7 hat7
    rw[u8s_append] at own7
    have HO7:=hide own7
    have HB7:=hide (app_below BB6 own6 hg7 (by omega) (Nat.le_refl _))
    clear own6 own7 hg7 hat7 o6 b6 BB6 f4 HO5 HB5
    have HOF:Hid (y7.ownsRow u.heap.size 5 1 (.slice A7 (q+2+8+1+8) d7) (q+2+8+1+8) (u8s (headB p ++ rowsB p (i+1)))):=hide (by rw[HSN.out,←List.append_assoc,HOut.out];have:=HO7.out;simp only[vB,flagOf,Int.toNat_natCast] at this ⊢;simpa using this)
    clear e4
    go_wp2
    go_roundw
    case rel=>first | exact⟨i+1,q+2+8+1+8,A7,d7,by omega,by omega,by go_num,rfl,HOF,HB7⟩ | ((repeat apply Exists.intro);exact⟨⟨i+1,q+2+8+1+8,A7,d7,by omega,by omega,by go_num,rfl,HOF,HB7⟩,rfl⟩)
    case measure=>simp[intOf];omega
   ·have HSN:=hide (rowsB_snoc HOw.out HVa.out HCh.out HIn.out)
    go_wp2_with fail
    refine (number2 _ v (by omega)).mono ?_
    rintro e y1 ⟨A1,d1,rfl,o1,b1⟩
    have own1:=own_all HO.out b1 (Nat.le_refl _)
    have hy1:=b1.size
    have BB1:=HBr.out.trans (b1.mono hus)
    go_wp2_with (at_builtin;refine wpList_app rfl (.tmp 27) (.tmp 34) 45 rfl u.heap.size 5 i0 (.int .u8 0) 1 1 Tryz.underlying45 hi0 hz0 hz1 hz2 rfl (by decide) (.slice A q d) q _ rfl own1 y1.heap.size A1 2 d1 (u8s (be 2 v)) rfl (by simp[u8s_len,be_len]) (Rd.of_own o1) (by first | exact u8s_one _ | simp[Value.oneCell']) (by unfold maxLen;omega) (by omega) (by first | omega | (simp;omega)) ?_)
    intro A2 d2 y2 own2 hg2 hat2
    rw[u8s_append] at own2
    have HO2:=hide own2
    have HB2:=hide (app_below BB1 own1 hg2 (by omega) (Nat.le_refl _))
    have hy2:=hg2.size
    clear own1 own2 hg2 hat2 o1 b1 BB1 e1 f0 HO HBr
    have e2:=(HB2.out.cell (p:=⟨w.heap.size,2,none⟩) hwu).trans E2.out
    have f1:=(HB2.out.cell (p:=⟨bv,ov+i,none⟩) lv).trans FX.out
    go_wp2_with fail
    refine (number8 _ x (by omega)).mono ?_
    rintro e y3 ⟨A3,d3,rfl,o3,b3⟩
    have own3:=own_all HO2.out b3 (Nat.le_refl _)
    have hy3:=b3.size
    have BB3:=HB2.out.trans (b3.mono (by omega))
    go_wp2_with (at_builtin;refine wpList_app rfl (.tmp 36) (.tmp 43) 45 rfl u.heap.size 5 i0 (.int .u8 0) 1 1 Tryz.underlying45 hi0 hz0 hz1 hz2 rfl (by decide) (.slice A2 (q+2) d2) (q+2) _ rfl own3 y3.heap.size A3 8 d3 (u8s (be 8 x)) rfl (by simp[u8s_len,be_len]) (Rd.of_own o3) (by first | exact u8s_one _ | simp[Value.oneCell']) (by unfold maxLen;omega) (by omega) (by first | omega | (simp;omega)) ?_)
    intro A4 d4 y4 own4 hg4 hat4
    rw[u8s_append] at own4
    have HO4:=hide own4
    have HB4:=hide (app_below BB3 own3 hg4 (by omega) (Nat.le_refl _))
    have hy4:=hg4.size
    clear own3 own4 hg4 hat4 o3 b3 BB3 e2 f1 HO2 HB2
    have e3:=(HB4.out.cell (p:=⟨w.heap.size,3,none⟩) hwu).trans E3.out
    have e4:=(HB4.out.cell (p:=⟨w.heap.size,4,none⟩) hwu).trans E4.out
    have f2:=(HB4.out.cell (p:=⟨bc,oc+i,none⟩) lc).trans FC.out
    have f3:=(HB4.out.cell (p:=⟨bi,oi+i*2,none⟩) li).trans FM.out
    go_wp2_with (at_builtin;refine wpList_app rfl (.tmp 57) (.tmp 59) 45 rfl u.heap.size 5 i0 (.int .u8 0) 1 1 Tryz.underlying45 hi0 hz0 hz1 hz2 rfl (by decide) (.slice A4 (q+2+8) d4) (q+2+8) _ rfl (HO4.out.alloc _) (y4.heap.size+1) (some ⟨y4.heap.size,0,none⟩) 1 1 [.int .u8 1] rfl (by simp[u8s_len,be_len]) (Rd.new _ _ _ _) (by first | exact u8s_one _ | simp[Value.oneCell']) (by unfold maxLen;omega) (by omega) (by first | omega | (simp;omega)) ?_)
    intro A5 d5 y5 own5 hg5 hat5
    have HO5:Hid (y5.ownsRow u.heap.size 5 1 (.slice A5 (q+2+8+1) d5) (q+2+8+1) (u8s (((out ++ be 2 v) ++ be 8 x) ++ be 1 1))):=hide (by have:=own5;rw[show [Value.int .u8 1]=u8s (be 1 1) from rfl] at this;simpa only [u8s_append,List.append_assoc] using this)
    have HB5:=hide (app_below (HB4.out.alloc (by omega) _) (HO4.out.alloc _) hg5 (by simp;omega) (Nat.le_refl _))
    have hy5:=hg5.size
    simp only[World.size_alloc] at hy5
    clear own5 hg5 hat5 e3 f2 f3 HO4 HB4
    have HOF:Hid (y5.ownsRow u.heap.size 5 1 (.slice A5 (q+2+8+1) d5) (q+2+8+1) (u8s (headB p ++ rowsB p (i+1)))):=hide (by rw[HSN.out,←List.append_assoc,HOut.out];have:=HO5.out;simp only[vB,flagOf,Int.toNat_natCast] at this ⊢;simpa using this)
    clear e4
    go_wp2
    go_roundw
    case rel=>first | exact⟨i+1,q+2+8+1,A5,d5,by omega,by omega,by go_num,rfl,HOF,HB5⟩ | ((repeat apply Exists.intro);exact⟨⟨i+1,q+2+8+1,A5,d5,by omega,by omega,by go_num,rfl,HOF,HB5⟩,rfl⟩)
    case measure=>simp[intOf];omega
   have r6:=r5 rfl
   obtain⟨y,rfl⟩:=Int.eq_ofNat_of_zero_le r6.1
   have r7:=r6.2
   clear r5 r6
   have HSN:=hide (rowsB_snoc HOw.out HVa.out HCh.out HIn.out)
   go_wp2_with fail
   refine (number2 _ v (by omega)).mono ?_
   rintro e y1 ⟨A1,d1,rfl,o1,b1⟩
   have own1:=own_all HO.out b1 (Nat.le_refl _)
   have hy1:=b1.size
   have BB1:=HBr.out.trans (b1.mono hus)
   go_wp2_with (at_builtin;refine wpList_app rfl (.tmp 27) (.tmp 34) 45 rfl u.heap.size 5 i0 (.int .u8 0) 1 1 Tryz.underlying45 hi0 hz0 hz1 hz2 rfl (by decide) (.slice A q d) q _ rfl own1 y1.heap.size A1 2 d1 (u8s (be 2 v)) rfl (by simp[u8s_len,be_len]) (Rd.of_own o1) (by first | exact u8s_one _ | simp[Value.oneCell']) (by unfold maxLen;omega) (by omega) (by first | omega | (simp;omega)) ?_)
   intro A2 d2 y2 own2 hg2 hat2
   rw[u8s_append] at own2
   have HO2:=hide own2
   have HB2:=hide (app_below BB1 own1 hg2 (by omega) (Nat.le_refl _))
   have hy2:=hg2.size
   clear own1 own2 hg2 hat2 o1 b1 BB1 e1 f0 HO HBr
   have e2:=(HB2.out.cell (p:=⟨w.heap.size,2,none⟩) hwu).trans E2.out
   have f1:=(HB2.out.cell (p:=⟨bv,ov+i,none⟩) lv).trans FX.out
   go_wp2_with fail
   refine (number8 _ x (by omega)).mono ?_
   rintro e y3 ⟨A3,d3,rfl,o3,b3⟩
   have own3:=own_all HO2.out b3 (Nat.le_refl _)
   have hy3:=b3.size
   have BB3:=HB2.out.trans (b3.mono (by omega))
   go_wp2_with (at_builtin;refine wpList_app rfl (.tmp 36) (.tmp 43) 45 rfl u.heap.size 5 i0 (.int .u8 0) 1 1 Tryz.underlying45 hi0 hz0 hz1 hz2 rfl (by decide) (.slice A2 (q+2) d2) (q+2) _ rfl own3 y3.heap.size A3 8 d3 (u8s (be 8 x)) rfl (by simp[u8s_len,be_len]) (Rd.of_own o3) (by first | exact u8s_one _ | simp[Value.oneCell']) (by unfold maxLen;omega) (by omega) (by first | omega | (simp;omega)) ?_)
   intro A4 d4 y4 own4 hg4 hat4
   rw[u8s_append] at own4
   have HO4:=hide own4
   have HB4:=hide (app_below BB3 own3 hg4 (by omega) (Nat.le_refl _))
   have hy4:=hg4.size
   clear own3 own4 hg4 hat4 o3 b3 BB3 e2 f1 HO2 HB2
   have e3:=(HB4.out.cell (p:=⟨w.heap.size,3,none⟩) hwu).trans E3.out
   have e4:=(HB4.out.cell (p:=⟨w.heap.size,4,none⟩) hwu).trans E4.out
   have f2:=(HB4.out.cell (p:=⟨bc,oc+i,none⟩) lc).trans FC.out
   have f3:=(HB4.out.cell (p:=⟨bi,oi+i*2,none⟩) li).trans FM.out
   go_wp2_with (at_builtin;refine wpList_app rfl (.tmp 61) (.tmp 64) 45 rfl u.heap.size 5 i0 (.int .u8 0) 1 1 Tryz.underlying45 hi0 hz0 hz1 hz2 rfl (by decide) (.slice A4 (q+2+8) d4) (q+2+8) _ rfl (HO4.out.alloc _) (y4.heap.size+1) (some ⟨y4.heap.size,0,none⟩) 1 1 [.int .u8 3] rfl (by simp[u8s_len,be_len]) (Rd.new _ _ _ _) (by first | exact u8s_one _ | simp[Value.oneCell']) (by unfold maxLen;omega) (by omega) (by first | omega | (simp;omega)) ?_)
   intro A5 d5 y5 own5 hg5 hat5
   have HO5:Hid (y5.ownsRow u.heap.size 5 1 (.slice A5 (q+2+8+1) d5) (q+2+8+1) (u8s (((out ++ be 2 v) ++ be 8 x) ++ be 1 3))):=hide (by have:=own5;rw[show [Value.int .u8 3]=u8s (be 1 3) from rfl] at this;simpa only [u8s_append,List.append_assoc] using this)
   have HB5:=hide (app_below (HB4.out.alloc (by omega) _) (HO4.out.alloc _) hg5 (by simp;omega) (Nat.le_refl _))
   have hy5:=hg5.size
   simp only[World.size_alloc] at hy5
   clear own5 hg5 hat5 e3 f2 f3 HO4 HB4
   have e4:=(HB5.out.cell (p:=⟨w.heap.size,4,none⟩) hwu).trans E4.out
   have f4:=(HB5.out.cell (p:=⟨bi,oi+i*2+1,none⟩) li).trans FY.out
   go_wp2_with fail
   refine (number8 _ y (by omega)).mono ?_
   rintro e y6 ⟨A6,d6,rfl,o6,b6⟩
   have own6:=own_all HO5.out b6 (Nat.le_refl _)
   have hy6:=b6.size
   have BB6:=HB5.out.trans (b6.mono (by omega))
   go_wp2_with (at_builtin;refine wpList_app rfl (.tmp 66) (.tmp 74) 45 rfl u.heap.size 5 i0 (.int .u8 0) 1 1 Tryz.underlying45 hi0 hz0 hz1 hz2 rfl (by decide) (.slice A5 (q+2+8+1) d5) (q+2+8+1) _ rfl own6 y6.heap.size A6 8 d6 (u8s (be 8 y)) rfl (by simp[u8s_len,be_len]) (Rd.of_own o6) (by first | exact u8s_one _ | simp[Value.oneCell']) (by unfold maxLen;omega) (by omega) (by first | omega | (simp;omega)) ?_)
   intro A7 d7 y7 own7 hg7 hat7
   rw[u8s_append] at own7
   have HO7:=hide own7
   have HB7:=hide (app_below BB6 own6 hg7 (by omega) (Nat.le_refl _))
   clear own6 own7 hg7 hat7 o6 b6 BB6 f4 HO5 HB5
   have HOF:Hid (y7.ownsRow u.heap.size 5 1 (.slice A7 (q+2+8+1+8) d7) (q+2+8+1+8) (u8s (headB p ++ rowsB p (i+1)))):=hide (by rw[HSN.out,←List.append_assoc,HOut.out];have:=HO7.out;simp only[vB,flagOf,Int.toNat_natCast] at this ⊢;simpa using this)
   clear e4
   go_wp2
   go_roundw
   case rel=>first | exact⟨i+1,q+2+8+1+8,A7,d7,by omega,by omega,by go_num,rfl,HOF,HB7⟩ | ((repeat apply Exists.intro);exact⟨⟨i+1,q+2+8+1+8,A7,d7,by omega,by omega,by go_num,rfl,HOF,HB7⟩,rfl⟩)
   case measure=>simp[intOf];omega
  obtain rfl:i=n:=by omega
  have HFin:Hid (PutPost w (putB p) 0 (.returned (.tuple #[.slice A q d,.int .i64 0])) wr):=hide (by
   have h:=HO.out
   rw[show headB p ++ rowsB p i=putB p by unfold putB;rw[HLen.out.1]] at h
   have hl:=h.1
   rw[u8s_len] at hl
   exact⟨A,d,q,by omega,rfl,Rd.of_own h,own_cap h,own_max h,hbu.out.trans (HBr.out.mono (by omega))⟩)
  go_wp2
  go_ret2
  exact HFin.out
theorem rput_any (w:World) (p:SPart) (Ao Av Ac Ai:Option Addr) (no nv nc ni co cv cc ci:Nat) (hlen:SLen p no nv nc ni) (bn:no≤2000) (hin:SIn w p Ao Av Ac Ai) :
  Calls Tryz.prog 36 #[.agg #[.int .i64 p.step,.slice Ao no co,.slice Av nv cv,.slice Ac nc cc,.slice Ai ni ci]] w (PutPost w (putOut p) (putCode p)):=by
 rcases hr:rightB p with _ | _
 ·rw[show putOut p=[] by simp[putOut,hr],show putCode p=4 by simp[putCode,hr]]
  exact rput_bad w p Ao Av Ac Ai no nv nc ni co cv cc ci hlen (by omega) hin hr
 rw[show putOut p=putB p by simp[putOut,hr],show putCode p=0 by simp[putCode,hr]]
 exact rput_ok w p Ao Av Ac Ai no nv nc ni co cv cc ci hlen bn hin hr
end Go.Proofs.YtpojjmbalgmcoaaGreat

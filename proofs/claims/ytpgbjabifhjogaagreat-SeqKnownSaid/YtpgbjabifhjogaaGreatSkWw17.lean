/- Lemmas: Srd. -/
import Derived.Test.YtpgbjabifhjogaaGreatSkWw14
import Derived.Test.YtpgbjabifhjogaaGreatSkWw16
set_option linter.unusedVariables false
set_option linter.unusedSimpArgs false
set_option maxRecDepth 100000
set_option maxHeartbeats 16000000
namespace Go.Proofs.YtpgbjabifhjogaaGreat
open Go.RowKit
theorem Mss.rd {w:World} {B:Nat} {A:Option Addr} {es:List Ms} (h:Mss w B A es):Rd w B A (msFlat es):=fun hn=>by
 obtain⟨b,off,rfl,hb,hc⟩:=h (fun e=>by subst e;exact hn rfl)
 refine⟨b,off,rfl,hb,fun j u hu=>?_⟩
 have hj:=(List.getElem?_eq_some_iff.1 hu).1
 rw[msFlat_len] at hj
 have hi:j / 2<es.length:=by omega
 obtain⟨cs,hl,rfl,hcc⟩:=hc (j / 2) _ (List.getElem?_eq_getElem hi)
 have hjj:j / 2*2+j % 2=j:=by omega
 have h3:j % 2<2:=by omega
 obtain⟨u',hu'⟩:∃u',([.int .i64 es[j / 2].1,.int .i64 es[j / 2].2]:List Value)[j % 2]?=some u':=by
  rcases (show j % 2=0∨j % 2=1 by omega) with h | h <;> rw[h] <;> exact⟨_,rfl⟩
 have h1:=msFlat_get (List.getElem?_eq_getElem hi) (j % 2) u' hu'
 rw[hjj,hu] at h1
 cases h1
 have h2:=hcc (j % 2) u hu'
 rw[hjj] at h2
 exact h2
theorem msFlat_one (l:List Ms):∀u∈msFlat l,u.oneCell'=true:=by
 intro u hu
 obtain⟨m,_,h⟩:=List.mem_flatMap.1 hu
 simp at h
 rcases h with rfl | rfl <;> rfl
theorem msFlat_take (l:List Ms) (k:Nat):(msFlat l).take (k*2)=msFlat (l.take k):=by
 induction l generalizing k with
 | nil=>simp[msFlat]
 | cons e l ih=>
  cases k with
  | zero=>simp[msFlat]
  | succ k=>
   have:=ih k
   unfold msFlat at this ⊢
   rw[List.flatMap_cons,show (k+1)*2=k*2+1+1 by omega,List.take_succ_cons,List.flatMap_cons]
   show _ :: _ :: _=_ :: _ :: _
   simp[this]
theorem msFlat_drop (l:List Ms) (k:Nat):(msFlat l).drop (k*2)=msFlat (l.drop k):=by
 induction l generalizing k with
 | nil=>simp[msFlat]
 | cons e l ih=>
  cases k with
  | zero=>simp[msFlat]
  | succ k=>
   have:=ih k
   unfold msFlat at this ⊢
   rw[List.flatMap_cons,show (k+1)*2=k*2+1+1 by omega,List.drop_succ_cons]
   show List.drop _ (_ :: _ :: _)=_
   simp[this]
def RmPost (w:World) (l:List Ms) (e:Ending) (w':World):Prop:=∃A c,e = .returned (.slice A l.length c)∧Rd w' w'.heap.size A (msFlat l)∧l.length≤c∧(A=none→c=0)∧Below w.heap.size w w'∧NewA w.heap.size A
theorem own_some2 {w:World} {base:Nat} {e:TypeId} {size n c:Nat} {A:Option Addr} {xs:List Value} (h:w.ownsRow base e size (.slice A n c) n xs) (hn:0<n):A=none→c=0:=fun e=>by
 obtain⟨g,hg,_⟩:=own_addr h hn
 rw[hg] at e;cases e
theorem below_dr0q (B:Nat) (u:World):Below B u u.drew:=(Below.refl B u).drew
theorem radd10_any (w:World) (kd j1 j2 j3 j4:Int) (A:Option Addr) (l:List Ms) (n c:Nat) (t y:Int) (hl:l.length=n) (hnc:n≤c) (hA:A=none→c=0) (hn:n≤100000) (hr:Rd w w.heap.size A (msFlat l)) :
  Calls Tryz.prog 84 #[.agg #[.int .u8 kd,.int .i64 j1,.int .i64 j2,.int .i64 j3,.int .i64 j4],.slice A n c,.agg #[.int .i64 t,.int .i64 y]] w (RmPost w (addM kd l (t,y))):=by
 obtain⟨i0,hi0,hz0,hz1,hz2⟩:=info_parts (show (Tryz.prog.info? 125).map (fun i=>(i.zero,i.size,i.bytes))=some (some (.agg #[.int .i64 0,.int .i64 0]),2,16) by kernel_rfl)
 obtain⟨q,hq⟩:∃q,lowM l t=q:=⟨_,rfl⟩
 have hqn:q≤n:=by rw[←hq,←hl];exact lowM_le l t
 have HQ:=hide hq
 have HL:=hide hl
 obtain⟨u,hu⟩:∃u,(w.alloc (.cells #[.int .u8 kd,.int .i64 j1,.int .i64 j2,.int .i64 j3,.int .i64 j4] 26)).alloc (.cells #[.int .i64 t,.int .i64 y] 125)=u:=⟨_,rfl⟩
 have hzu:u.heap.size=w.heap.size+2:=by rw[←hu];simp
 have HBu:Hid (Below w.heap.size w u):=hide (by rw[←hu];exact ((Below.refl _ _).alloc (Nat.le_refl _) _).alloc (by simp) _)
 have hM0:u.heap[w.heap.size]?=some (.cells #[.int .u8 kd,.int .i64 j1,.int .i64 j2,.int .i64 j3,.int .i64 j4] 26):=by rw[←hu];exact (Below.heap_alloc _ _ _ (by simp)).trans (heap_alloc_last w _)
 have hM1:u.heap[w.heap.size+1]?=some (.cells #[.int .i64 t,.int .i64 y] 125):=by
  rw[←hu]
  have:=heap_alloc_last (w.alloc (.cells #[.int .u8 kd,.int .i64 j1,.int .i64 j2,.int .i64 j3,.int .i64 j4] 26)) (.cells #[.int .i64 t,.int .i64 y] 125)
  rw[World.size_alloc] at this
  exact this
 have HR:Hid (Rd u u.heap.size A (msFlat l)):=hide (hr.next HBu.out)
 have HM:Hid (Mss u u.heap.size A l):=hide (Mss.of_rd HR.out)
 obtain⟨c0,c1,c2,c3,c4⟩:=zr5 hM0
 obtain⟨d0,d1⟩:=zr2 hM1
 have hl0:w.heap.size<u.heap.size:=by omega
 have hl1:w.heap.size+1<u.heap.size:=by omega
 have hsw:w.heap.size≤u.heap.size:=by omega
 have HU:=hide hu
 clear hu hzu hq hl hr hM0 hM1
 go_enter Tryz.func84,Tryz.ntmps84
 go_wp2
 rw[HU.out]
 go_loopw [7] (fun vi wr=>∃k:Nat,k≤q∧vi = .int .i64 k∧Hid (Below u.heap.size u wr)) (fun vi _=>n-(intOf vi).toNat)
 case atStart=>exact⟨0,by omega,rfl,hide (Below.refl _ _)⟩
 case round=>
  obtain⟨k,hk,rfl,HBw⟩:=hrel
  have hlw:=HBw.out.size
  have c0:=(HBw.out.cell (p:=⟨w.heap.size,0,none⟩) hl0).trans c0
  have c1:=(HBw.out.cell (p:=⟨w.heap.size,1,none⟩) hl0).trans c1
  have c2:=(HBw.out.cell (p:=⟨w.heap.size,2,none⟩) hl0).trans c2
  have c3:=(HBw.out.cell (p:=⟨w.heap.size,3,none⟩) hl0).trans c3
  have c4:=(HBw.out.cell (p:=⟨w.heap.size,4,none⟩) hl0).trans c4
  have d0:=(HBw.out.cell (p:=⟨w.heap.size+1,0,none⟩) hl1).trans d0
  have d1:=(HBw.out.cell (p:=⟨w.heap.size+1,1,none⟩) hl1).trans d1
  have HR:Hid (Rd wr wr.heap.size A (msFlat l)):=hide (HR.out.next HBw.out)
  have HM:Hid (Mss wr wr.heap.size A l):=hide (Mss.of_rd HR.out)
  have HBu:Hid (Below w.heap.size w wr):=hide (HBu.out.trans (HBw.out.mono hsw))
  have hsw:w.heap.size≤wr.heap.size:=by omega
  have hl0:w.heap.size<wr.heap.size:=by omega
  have hl1:w.heap.size+1<wr.heap.size:=by omega
  by_cases hlt:k<q
  ·obtain⟨⟨x1,x2⟩,hx⟩:∃x,l[k]?=some x:=⟨_,List.getElem?_eq_getElem (by rw[HL.out];omega)⟩
   obtain⟨b,o,rfl,hb,e0,e1⟩:=HM.out.get hx
   have hx1:x1<t:=lowM_in (by rw[HQ.out];exact hlt) hx
   dsimp only at e0 e1
   have hI0:(0:Int)≤(k:Int):=by omega
   have hI1:(k:Int)<(n:Int):=by omega
   clear hx
   go_upto_region 2 with fail
   refine wp_region_held_drew (S:=Kept wr) (by kernel_rfl) (Kept.drew wr) (fun hS0=>?_)
   refine tka 0 9 ?_
   refine tka 1 10 ?_
   refine tka 2 11 ?_
   refine tka 3 12 ?_
   refine tka 4 13 ?_
   refine tka 5 14 ?_
   refine tka 6 15 ?_
   refine tka 7 16 ?_
   refine tka 8 17 ?_
   refine tka 9 18 ?_
   refine tka 10 19 ?_
   refine tka 11 20 ?_
   refine tka 12 21 ?_
   refine tka 13 22 ?_
   refine wpAnyH_done (by kernel_rfl) ?_ _
   clear hS0
   go_wp2
   go_roundw
   case rel=>exact⟨k+1,by omega,by go_num,hide HBw.out.drew⟩
   case measure=>simp[intOf];omega
  obtain rfl:k=q:=by omega
  have hd0:¬k<k:=by omega
  have HLT:Hid ((msFlat (l.take k)).length=k*2):=hide (by rw[msFlat_len,List.length_take,HL.out,Nat.min_eq_left hqn])
  have HLD (j:Nat):Hid ((msFlat (l.drop j)).length=(n-j)*2):=hide (by rw[msFlat_len,List.length_drop,HL.out])
  by_cases hkm:k<n
  ·obtain⟨⟨x1,x2⟩,hx⟩:∃x,l[k]?=some x:=⟨_,List.getElem?_eq_getElem (by rw[HL.out];exact hkm)⟩
   obtain⟨b,o,rfl,hb,e0,e1⟩:=HM.out.get hx
   have hx1:¬x1<t:=lowM_stop (x:=(x1,x2)) (by rw[HQ.out];exact hx)
   have HX:=hide hx
   dsimp only at e0 e1
   have hI0:(0:Int)≤(k:Int):=by omega
   have hI1:(k:Int)<(n:Int):=by omega
   clear hx
   go_upto_region 2 with fail
   refine wp_region_held_drew (S:=Kept wr) (by kernel_rfl) (Kept.drew wr) (fun hS0=>?_)
   refine tka 0 9 ?_
   refine tka 1 10 ?_
   refine tka 2 11 ?_
   refine tka 3 12 ?_
   refine tka 4 13 ?_
   refine tka 5 14 ?_
   refine tka 6 15 ?_
   refine tka 7 16 ?_
   refine tka 8 17 ?_
   refine tka 9 18 ?_
   refine tka 10 19 ?_
   refine tka 11 20 ?_
   refine tka 12 21 ?_
   refine tka 13 22 ?_
   refine wpAnyH_done (by kernel_rfl) ?_ _
   have HBu:Hid (Below w.heap.size w wr.drew):=hide HBu.out.drew
   have HR:Hid (Rd wr.drew wr.drew.heap.size (some ⟨b,o,none⟩) (msFlat l)):=hide HR.out.drew
   have c0:wr.drew.cell? ⟨w.heap.size,0,none⟩=some (.int .u8 kd):=c0
   have c1:wr.drew.cell? ⟨w.heap.size,1,none⟩=some (.int .i64 j1):=c1
   have c2:wr.drew.cell? ⟨w.heap.size,2,none⟩=some (.int .i64 j2):=c2
   have c3:wr.drew.cell? ⟨w.heap.size,3,none⟩=some (.int .i64 j3):=c3
   have c4:wr.drew.cell? ⟨w.heap.size,4,none⟩=some (.int .i64 j4):=c4
   have d0:wr.drew.cell? ⟨w.heap.size+1,0,none⟩=some (.int .i64 t):=d0
   have d1:wr.drew.cell? ⟨w.heap.size+1,1,none⟩=some (.int .i64 y):=d1
   have e0:wr.drew.cell? ⟨b,o+k*2,none⟩=some (.int .i64 x1):=e0
   have e1:wr.drew.cell? ⟨b,o+k*2+1,none⟩=some (.int .i64 x2):=e1
   have hsw:w.heap.size≤wr.drew.heap.size:=hsw
   have hl0:w.heap.size<wr.drew.heap.size:=hl0
   have hl1:w.heap.size+1<wr.drew.heap.size:=hl1
   have hb:b<wr.drew.heap.size:=hb
   clear HBw hlw HM
   obtain⟨v,hv⟩:∃z,wr.drew=z:=⟨_,rfl⟩
   rw[hv] at HBu HR c0 c1 c2 c3 c4 d0 d1 hsw hl0 hl1 e0 e1 hb
   rw[hv]
   clear hv
   clear hS0
   have HRt:Hid (Rd v v.heap.size (some ⟨b,o,none⟩) (msFlat (l.take k))):=hide (by rw[←msFlat_take];exact HR.out.take _)
   have HRd (j:Nat) (hj:j<c) (hj2:j≤n):Hid (Rd v v.heap.size (some ⟨b,o+j*2,none⟩) (msFlat (l.drop j))):=hide (by
    have h:=HR.out.cut (k:=j*2) (cap:=c*2) (by rw[msFlat_len,HL.out];omega) (by rw[msFlat_len,HL.out];omega)
    rw[if_neg (by omega),msFlat_drop,Option.map_some,add_plain] at h
    exact h)
   have hq2:(k:Int)≤(n:Int):=by omega
   have hq3:(k:Int)≤(c:Int):=by omega
   have hq4:(n:Int)≤(c:Int):=by omega
   by_cases heq:x1=t
   ·obtain rfl:t=x1:=heq.symm
    obtain⟨g,hg⟩:∃g,combF kd x2 y=g:=⟨_,rfl⟩
    have HPF:Hid (addM kd l (t,y)=l.take k ++ (t,g) :: l.drop (k+1)):=hide (by
     have:=add_same (k:=kd) (m:=(t,y)) (l:=l) (a:=(t,x2)) (by rw[HQ.out];exact HX.out) rfl
     rw[HQ.out] at this
     rw[←hg]
     exact this)
    have HG:=hide hg
    clear hg
    have HK1:Hid (IntKind.i64.wrap ((k:Int)+1)=((k+1:Nat):Int)):=hide (by rw[IntWalk.i64_in _ (by omega)];omega)
    by_cases hkc:k+1<c
    ·have HRd':=HRd (k+1) (by omega) (by omega)
     have hq5:((k+1:Nat):Int)≤(n:Int):=by omega
     have hq6:(0:Int)≤((k+1:Nat):Int):=by omega
     have hq7:((k+1:Nat):Int)≤(c:Int):=by omega
     have hq8:¬c=k+1:=by omega
     clear hx1 HRd hA hlt hk
     go_upto_region 6 with (at_builtin;refine wpList_app rfl (.tmp 25) (.tmp 28) 92 rfl v.heap.size 125 i0 (.agg #[.int .i64 0,.int .i64 0]) 2 16 Tryz.underlying92 hi0 hz0 hz1 hz2 rfl (by decide) (.slice none 0 0) 0 [] rfl (World.ownsRow_nil _ _ _ _) v.heap.size (some ⟨b,o,none⟩) k _ (msFlat (l.take k)) rfl (by rw[HLT.out]) HRt.out (by intro z hz;exact msFlat_one _ z hz) (by unfold maxLen;omega) (by omega) (Nat.le_refl _) ?_)
     intro A1 c1' w1 hown1 hg1 hat1
     try simp only[Nat.zero_add,List.nil_append] at hown1
     have HO1:=hide hown1
     have HB1:Hid (Below v.heap.size v w1):=hide ((Below.refl _ v).grown hg1 (Nat.le_refl _) (fun k e=>by cases e))
     have hs1:=HB1.out.size
     have hl0w:w.heap.size<w1.heap.size:=by omega
     have hl1w:w.heap.size+1<w1.heap.size:=by omega
     have c0:=(HB1.out.cell (p:=⟨w.heap.size,0,none⟩) hl0).trans c0
     have c1:=(HB1.out.cell (p:=⟨w.heap.size,1,none⟩) hl0).trans c1
     have c2:=(HB1.out.cell (p:=⟨w.heap.size,2,none⟩) hl0).trans c2
     have c3:=(HB1.out.cell (p:=⟨w.heap.size,3,none⟩) hl0).trans c3
     have c4:=(HB1.out.cell (p:=⟨w.heap.size,4,none⟩) hl0).trans c4
     have d0:=(HB1.out.cell (p:=⟨w.heap.size+1,0,none⟩) hl1).trans d0
     have d1:=(HB1.out.cell (p:=⟨w.heap.size+1,1,none⟩) hl1).trans d1
     clear hg1 hat1 hown1
     have e0:=(HB1.out.cell (p:=⟨b,o+k*2,none⟩) hb).trans e0
     have e1:=(HB1.out.cell (p:=⟨b,o+k*2+1,none⟩) hb).trans e1
     have hbw1:b<w1.heap.size:=by omega
     go_upto_region 6 with fail
     refine wp_region_held_drew (S:=Kept w1) (by kernel_rfl) (Kept.drew w1) (fun hS6=>?_)
     refine tka 0 30 ?_
     refine tka 1 31 ?_
     refine tka 2 32 ?_
     refine tka 3 33 ?_
     refine tka 4 34 ?_
     refine tka 5 35 ?_
     refine tka 6 36 ?_
     refine tka 7 37 ?_
     refine tka 8 38 ?_
     refine tka 9 39 ?_
     refine tka 10 40 ?_
     refine tka 11 41 ?_
     refine tka 12 42 ?_
     refine tka 13 43 ?_
     refine wpAnyH_done (by kernel_rfl) ?_ _
     clear hS6
     have HO1:=hide HO1.out.drew
     have HB1:=hide HB1.out.drew
     have hs1:v.heap.size≤w1.drew.heap.size:=hs1
     have c0:w1.drew.cell? ⟨w.heap.size,0,none⟩=some (.int .u8 kd):=c0
     have c1:w1.drew.cell? ⟨w.heap.size,1,none⟩=some (.int .i64 j1):=c1
     have c2:w1.drew.cell? ⟨w.heap.size,2,none⟩=some (.int .i64 j2):=c2
     have c3:w1.drew.cell? ⟨w.heap.size,3,none⟩=some (.int .i64 j3):=c3
     have c4:w1.drew.cell? ⟨w.heap.size,4,none⟩=some (.int .i64 j4):=c4
     have d0:w1.drew.cell? ⟨w.heap.size+1,0,none⟩=some (.int .i64 t):=d0
     have d1:w1.drew.cell? ⟨w.heap.size+1,1,none⟩=some (.int .i64 y):=d1
     have e0:w1.drew.cell? ⟨b,o+k*2,none⟩=some (.int .i64 t):=e0
     have e1:w1.drew.cell? ⟨b,o+k*2+1,none⟩=some (.int .i64 x2):=e1
     obtain⟨v1,hv1⟩:∃z,w1.drew=z:=⟨_,rfl⟩
     rw[hv1] at HO1 HB1 hs1 c0 c1 c2 c3 c4 d0 d1 e0 e1
     rw[hv1]
     clear hv1
     have hbw1:b<v1.heap.size:=by omega
     have hl0w:w.heap.size<v1.heap.size:=by omega
     have hl1w:w.heap.size+1<v1.heap.size:=by omega
     go_upto_region 7 with fail
     refine wpL_region (S:=Kept v1) [14] (by kernel_rfl) (Kept.drew v1) (fun hS0=>?_)
     refine tla 0 44 ?_
     refine twa 1 45 ?_
     refine tua [2,12,13,14,15] 2 46 ?_
     refine tua [3,11,12,13,14,15] 3 47 ?_
     refine twa 4 48 ?_
     refine twa 5 49 ?_
     refine twa 6 50 ?_
     refine twa 7 51 ?_
     refine tua [8,11,12,13,14,15] 8 52 ?_
     refine twa 9 53 ?_
     refine tua [10,11,12,13,14,15] 10 54 ?_
     refine cl 11 55 fun K hK=>?_
     go_simp
     refine (rcomb_any _ kd j1 j2 j3 j4 x2 y).mono ?_
     rintro e z1 ⟨rfl,hz⟩
     rw[HG.out]
     have hS1:Kept v1 z1:=hS0.below (by simp) hz
     have hZ:=hide ((below_dr0q v1.heap.size v1).trans hz)
     have HOZ:=hide (own_below HO1.out.drew hz (fun g hg=>(HO1.out.drew.lt g hg).2))
     have hzs:v1.heap.size≤z1.heap.size:=by have:=hz.size;simpa using this
     clear hz
     go_wp2_with fail
     refine hK.out _ _ hS1 (fun hSn=>?_)
     clear hK K
     try simp only[zqd,zqe,zqf]
     refine twa 12 56 ?_
     refine cl 13 57 fun K hK=>?_
     go_simp
     have hS2:Kept v1 (z1.alloc (.cells #[.int .i64 t,.int .i64 g] 125)):=fun p hp=>(World.cell?_alloc_lt _ _ _ (by omega)).trans (hS1 p hp)
     refine hK.out _ _ hS2 (fun hSn=>?_)
     clear hK K
     try simp only[zqd,zqe,zqf]
     refine xl 14 fun K hK=>?_
     refine op_app (.tmp 44) (.tmp 57) 92 rfl v.heap.size 125 i0 (.agg #[.int .i64 0,.int .i64 0]) 2 16 Tryz.underlying92 hi0 hz0 hz1 hz2 rfl (by decide) (.slice A1 k c1') k _ rfl (HOZ.out.alloc _) (z1.heap.size+1) (some ⟨z1.heap.size,0,none⟩) 1 1 [.int .i64 t,.int .i64 g] rfl rfl (Rd.new _ _ _ _) (by simp[Value.oneCell']) (by unfold maxLen;omega) (by omega) (by simp;omega) ?_
     intro A2 c2' w2 hown2 hg2 hat2
     have HB2:Hid (Below v.heap.size v w2):=hide (app_below ((HB1.out.trans (hZ.out.mono hs1)).alloc (by omega) _) (HOZ.out.alloc _) hg2 (by simp;omega) (Nat.le_refl _))
     have HO2:=hide hown2
     clear hown2 hg2 hat2
     refine hK.out _ _ ?_
     clear hK K
     simp only[Act.put]
     try simp only[zqd,zqe,zqf]
     refine twa 15 8 ?_
     refine wpAnyL_done (by kernel_rfl) ?_ _
     clear hS0 hSn hS1 c0 c1 c2 c3 c4 d0 d1 e0 e1
     have hk1:=HK1.out
     go_wp2_with (at_builtin;refine wpList_app rfl (.tmp 59) (.tmp 63) 92 rfl v.heap.size 125 i0 (.agg #[.int .i64 0,.int .i64 0]) 2 16 Tryz.underlying92 hi0 hz0 hz1 hz2 rfl (by decide) (.slice A2 (k+1) c2') (k+1) _ rfl HO2.out v.heap.size (some ⟨b,o+(k+1)*2,none⟩) (n-(k+1)) _ (msFlat (l.drop (k+1))) rfl (by rw[(HLD (k+1)).out]) (HRd'.out.below HB2.out) (by intro z hz;exact msFlat_one _ z hz) (by unfold maxLen;omega) (by omega) HB2.out.size ?_)
     intro A3 c3 w3 hown3 hg3 hat3
     have HB3:Hid (Below w.heap.size w w3):=hide (HBu.out.trans ((app_below HB2.out HO2.out hg3 HB2.out.size (Nat.le_refl _)).mono hsw))
     have hlen:(addM kd l (t,y)).length=k+1+(n-(k+1)):=by rw[HPF.out];simp only[List.length_append,List.length_cons,List.length_take,List.length_drop,List.length_nil,HL.out];omega
     have hrow:msFlat (addM kd l (t,y))=msFlat (l.take k) ++ [.int .i64 t,.int .i64 g] ++ msFlat (l.drop (k+1)):=by rw[HPF.out];simp[msFlat]
     have HFin:Hid (RmPost w (addM kd l (t,y)) (.returned (.slice A3 (k+1+(n-(k+1))) c3)) w3):=hide ⟨A3,c3,by rw[hlen],by rw[hrow];have h9:=Rd.of_own hown3;clear hown3 hrow;simpa using h9,by rw[hlen];exact own_cap hown3,own_some2 hown3 (by omega),HB3.out,own_new hown3 (by omega)⟩
     clear hlen hrow hown3 hg3 hat3
     go_wp2
     go_ret
     exact HFin.out
    have HN:Hid (n=k+1):=hide (by omega)
    obtain rfl:c=n:=by omega
    have HK1:Hid (IntKind.i64.wrap ((k:Int)+1)=(c:Int)):=hide (by rw[HK1.out,HN.out])
    have hq6:(0:Int)≤(c:Int):=by omega
    clear hx1 HRd hA hlt hk
    go_upto_region 6 with (at_builtin;refine wpList_app rfl (.tmp 25) (.tmp 28) 92 rfl v.heap.size 125 i0 (.agg #[.int .i64 0,.int .i64 0]) 2 16 Tryz.underlying92 hi0 hz0 hz1 hz2 rfl (by decide) (.slice none 0 0) 0 [] rfl (World.ownsRow_nil _ _ _ _) v.heap.size (some ⟨b,o,none⟩) k _ (msFlat (l.take k)) rfl (by rw[HLT.out]) HRt.out (by intro z hz;exact msFlat_one _ z hz) (by unfold maxLen;omega) (by omega) (Nat.le_refl _) ?_)
    intro A1 c1' w1 hown1 hg1 hat1
    try simp only[Nat.zero_add,List.nil_append] at hown1
    have HO1:=hide hown1
    have HB1:Hid (Below v.heap.size v w1):=hide ((Below.refl _ v).grown hg1 (Nat.le_refl _) (fun k e=>by cases e))
    have hs1:=HB1.out.size
    have hl0w:w.heap.size<w1.heap.size:=by omega
    have hl1w:w.heap.size+1<w1.heap.size:=by omega
    have c0:=(HB1.out.cell (p:=⟨w.heap.size,0,none⟩) hl0).trans c0
    have c1:=(HB1.out.cell (p:=⟨w.heap.size,1,none⟩) hl0).trans c1
    have c2:=(HB1.out.cell (p:=⟨w.heap.size,2,none⟩) hl0).trans c2
    have c3:=(HB1.out.cell (p:=⟨w.heap.size,3,none⟩) hl0).trans c3
    have c4:=(HB1.out.cell (p:=⟨w.heap.size,4,none⟩) hl0).trans c4
    have d0:=(HB1.out.cell (p:=⟨w.heap.size+1,0,none⟩) hl1).trans d0
    have d1:=(HB1.out.cell (p:=⟨w.heap.size+1,1,none⟩) hl1).trans d1
    clear hg1 hat1 hown1
    have e0:=(HB1.out.cell (p:=⟨b,o+k*2,none⟩) hb).trans e0
    have e1:=(HB1.out.cell (p:=⟨b,o+k*2+1,none⟩) hb).trans e1
    have hbw1:b<w1.heap.size:=by omega
    go_upto_region 6 with fail
    refine wp_region_held_drew (S:=Kept w1) (by kernel_rfl) (Kept.drew w1) (fun hS6=>?_)
    refine tka 0 30 ?_
    refine tka 1 31 ?_
    refine tka 2 32 ?_
    refine tka 3 33 ?_
    refine tka 4 34 ?_
    refine tka 5 35 ?_
    refine tka 6 36 ?_
    refine tka 7 37 ?_
    refine tka 8 38 ?_
    refine tka 9 39 ?_
    refine tka 10 40 ?_
    refine tka 11 41 ?_
    refine tka 12 42 ?_
    refine tka 13 43 ?_
    refine wpAnyH_done (by kernel_rfl) ?_ _
    clear hS6
    have HO1:=hide HO1.out.drew
    have HB1:=hide HB1.out.drew
    have hs1:v.heap.size≤w1.drew.heap.size:=hs1
    have c0:w1.drew.cell? ⟨w.heap.size,0,none⟩=some (.int .u8 kd):=c0
    have c1:w1.drew.cell? ⟨w.heap.size,1,none⟩=some (.int .i64 j1):=c1
    have c2:w1.drew.cell? ⟨w.heap.size,2,none⟩=some (.int .i64 j2):=c2
    have c3:w1.drew.cell? ⟨w.heap.size,3,none⟩=some (.int .i64 j3):=c3
    have c4:w1.drew.cell? ⟨w.heap.size,4,none⟩=some (.int .i64 j4):=c4
    have d0:w1.drew.cell? ⟨w.heap.size+1,0,none⟩=some (.int .i64 t):=d0
    have d1:w1.drew.cell? ⟨w.heap.size+1,1,none⟩=some (.int .i64 y):=d1
    have e0:w1.drew.cell? ⟨b,o+k*2,none⟩=some (.int .i64 t):=e0
    have e1:w1.drew.cell? ⟨b,o+k*2+1,none⟩=some (.int .i64 x2):=e1
    obtain⟨v1,hv1⟩:∃z,w1.drew=z:=⟨_,rfl⟩
    rw[hv1] at HO1 HB1 hs1 c0 c1 c2 c3 c4 d0 d1 e0 e1
    rw[hv1]
    clear hv1
    have hbw1:b<v1.heap.size:=by omega
    have hl0w:w.heap.size<v1.heap.size:=by omega
    have hl1w:w.heap.size+1<v1.heap.size:=by omega
    go_upto_region 7 with fail
    refine wpL_region (S:=Kept v1) [14] (by kernel_rfl) (Kept.drew v1) (fun hS0=>?_)
    refine tla 0 44 ?_
    refine twa 1 45 ?_
    refine tua [2,12,13,14,15] 2 46 ?_
    refine tua [3,11,12,13,14,15] 3 47 ?_
    refine twa 4 48 ?_
    refine twa 5 49 ?_
    refine twa 6 50 ?_
    refine twa 7 51 ?_
    refine tua [8,11,12,13,14,15] 8 52 ?_
    refine twa 9 53 ?_
    refine tua [10,11,12,13,14,15] 10 54 ?_
    refine cl 11 55 fun K hK=>?_
    go_simp
    refine (rcomb_any _ kd j1 j2 j3 j4 x2 y).mono ?_
    rintro e z1 ⟨rfl,hz⟩
    rw[HG.out]
    have hS1:Kept v1 z1:=hS0.below (by simp) hz
    have hZ:=hide ((below_dr0q v1.heap.size v1).trans hz)
    have HOZ:=hide (own_below HO1.out.drew hz (fun g hg=>(HO1.out.drew.lt g hg).2))
    have hzs:v1.heap.size≤z1.heap.size:=by have:=hz.size;simpa using this
    clear hz
    go_wp2_with fail
    refine hK.out _ _ hS1 (fun hSn=>?_)
    clear hK K
    try simp only[zqd,zqe,zqf]
    refine twa 12 56 ?_
    refine cl 13 57 fun K hK=>?_
    go_simp
    have hS2:Kept v1 (z1.alloc (.cells #[.int .i64 t,.int .i64 g] 125)):=fun p hp=>(World.cell?_alloc_lt _ _ _ (by omega)).trans (hS1 p hp)
    refine hK.out _ _ hS2 (fun hSn=>?_)
    clear hK K
    try simp only[zqd,zqe,zqf]
    refine xl 14 fun K hK=>?_
    refine op_app (.tmp 44) (.tmp 57) 92 rfl v.heap.size 125 i0 (.agg #[.int .i64 0,.int .i64 0]) 2 16 Tryz.underlying92 hi0 hz0 hz1 hz2 rfl (by decide) (.slice A1 k c1') k _ rfl (HOZ.out.alloc _) (z1.heap.size+1) (some ⟨z1.heap.size,0,none⟩) 1 1 [.int .i64 t,.int .i64 g] rfl rfl (Rd.new _ _ _ _) (by simp[Value.oneCell']) (by unfold maxLen;omega) (by omega) (by simp;omega) ?_
    intro A2 c2' w2 hown2 hg2 hat2
    have HB2:Hid (Below v.heap.size v w2):=hide (app_below ((HB1.out.trans (hZ.out.mono hs1)).alloc (by omega) _) (HOZ.out.alloc _) hg2 (by simp;omega) (Nat.le_refl _))
    have HO2:=hide hown2
    clear hown2 hg2 hat2
    refine hK.out _ _ ?_
    clear hK K
    simp only[Act.put]
    try simp only[zqd,zqe,zqf]
    refine twa 15 8 ?_
    refine wpAnyL_done (by kernel_rfl) ?_ _
    clear hS0 hSn hS1 c0 c1 c2 c3 c4 d0 d1 e0 e1
    have hk1:=HK1.out
    go_wp2_with (at_builtin;refine wpList_app rfl (.tmp 59) (.tmp 63) 92 rfl v.heap.size 125 i0 (.agg #[.int .i64 0,.int .i64 0]) 2 16 Tryz.underlying92 hi0 hz0 hz1 hz2 rfl (by decide) (.slice A2 (k+1) c2') (k+1) _ rfl HO2.out v.heap.size _ _ _ [] rfl (by simp) Rd.nil_ (by intro z hz;cases hz) (by unfold maxLen;omega) (by omega) HB2.out.size ?_)
    intro A3 c3 w3 hown3 hg3 hat3
    have HB3:Hid (Below w.heap.size w w3):=hide (HBu.out.trans ((app_below HB2.out HO2.out hg3 HB2.out.size (Nat.le_refl _)).mono hsw))
    have hlen:(addM kd l (t,y)).length=k+1:=by rw[HPF.out];simp only[List.length_append,List.length_cons,List.length_take,List.length_drop,List.length_nil,HL.out];have:=HN.out;omega
    have hrow:msFlat (addM kd l (t,y))=msFlat (l.take k) ++ [.int .i64 t,.int .i64 g]:=by rw[HPF.out,List.drop_of_length_le (by rw[HL.out];have:=HN.out;omega)];simp[msFlat]
    have HFin:Hid (RmPost w (addM kd l (t,y)) (.returned (.slice A3 (k+1) c3)) w3):=hide ⟨A3,c3,by rw[hlen],by rw[hrow];have h9:=Rd.of_own hown3;clear hown3 hrow;simpa using h9,by rw[hlen];exact own_cap hown3,own_some2 hown3 (by omega),HB3.out,own_new hown3 (by omega)⟩
    clear hlen hrow hown3 hg3 hat3
    go_wp2
    go_ret
    exact HFin.out
   have HPF:Hid (addM kd l (t,y)=l.take k ++ (t,y) :: l.drop k):=hide (by
    have:=add_far (k:=kd) (m:=(t,y)) (l:=l) (a:=(x1,x2)) (by rw[HQ.out];exact HX.out) heq
    rw[HQ.out] at this
    exact this)
   have HRd':=HRd k (by omega) (by omega)
   clear hx1 HRd hA hlt hk
   go_upto_region 6 with (at_builtin;refine wpList_app rfl (.tmp 25) (.tmp 28) 92 rfl v.heap.size 125 i0 (.agg #[.int .i64 0,.int .i64 0]) 2 16 Tryz.underlying92 hi0 hz0 hz1 hz2 rfl (by decide) (.slice none 0 0) 0 [] rfl (World.ownsRow_nil _ _ _ _) v.heap.size (some ⟨b,o,none⟩) k _ (msFlat (l.take k)) rfl (by rw[HLT.out]) HRt.out (by intro z hz;exact msFlat_one _ z hz) (by unfold maxLen;omega) (by omega) (Nat.le_refl _) ?_)
   intro A1 c1' w1 hown1 hg1 hat1
   try simp only[Nat.zero_add,List.nil_append] at hown1
   have HO1:=hide hown1
   have HB1:Hid (Below v.heap.size v w1):=hide ((Below.refl _ v).grown hg1 (Nat.le_refl _) (fun k e=>by cases e))
   have hs1:=HB1.out.size
   have hl0w:w.heap.size<w1.heap.size:=by omega
   have hl1w:w.heap.size+1<w1.heap.size:=by omega
   have c0:=(HB1.out.cell (p:=⟨w.heap.size,0,none⟩) hl0).trans c0
   have c1:=(HB1.out.cell (p:=⟨w.heap.size,1,none⟩) hl0).trans c1
   have c2:=(HB1.out.cell (p:=⟨w.heap.size,2,none⟩) hl0).trans c2
   have c3:=(HB1.out.cell (p:=⟨w.heap.size,3,none⟩) hl0).trans c3
   have c4:=(HB1.out.cell (p:=⟨w.heap.size,4,none⟩) hl0).trans c4
   have d0:=(HB1.out.cell (p:=⟨w.heap.size+1,0,none⟩) hl1).trans d0
   have d1:=(HB1.out.cell (p:=⟨w.heap.size+1,1,none⟩) hl1).trans d1
   clear hg1 hat1 hown1
   have e0:=(HB1.out.cell (p:=⟨b,o+k*2,none⟩) hb).trans e0
   have e1:=(HB1.out.cell (p:=⟨b,o+k*2+1,none⟩) hb).trans e1
   have hbw1:b<w1.heap.size:=by omega
   go_upto_region 6 with fail
   refine wp_region_held_drew (S:=Kept w1) (by kernel_rfl) (Kept.drew w1) (fun hS6=>?_)
   refine tka 0 30 ?_
   refine tka 1 31 ?_
   refine tka 2 32 ?_
   refine tka 3 33 ?_
   refine tka 4 34 ?_
   refine tka 5 35 ?_
   refine tka 6 36 ?_
   refine tka 7 37 ?_
   refine tka 8 38 ?_
   refine tka 9 39 ?_
   refine tka 10 40 ?_
   refine tka 11 41 ?_
   refine tka 12 42 ?_
   refine tka 13 43 ?_
   refine wpAnyH_done (by kernel_rfl) ?_ _
   clear hS6
   have HO1:=hide HO1.out.drew
   have HB1:=hide HB1.out.drew
   have hs1:v.heap.size≤w1.drew.heap.size:=hs1
   have c0:w1.drew.cell? ⟨w.heap.size,0,none⟩=some (.int .u8 kd):=c0
   have c1:w1.drew.cell? ⟨w.heap.size,1,none⟩=some (.int .i64 j1):=c1
   have c2:w1.drew.cell? ⟨w.heap.size,2,none⟩=some (.int .i64 j2):=c2
   have c3:w1.drew.cell? ⟨w.heap.size,3,none⟩=some (.int .i64 j3):=c3
   have c4:w1.drew.cell? ⟨w.heap.size,4,none⟩=some (.int .i64 j4):=c4
   have d0:w1.drew.cell? ⟨w.heap.size+1,0,none⟩=some (.int .i64 t):=d0
   have d1:w1.drew.cell? ⟨w.heap.size+1,1,none⟩=some (.int .i64 y):=d1
   have e0:w1.drew.cell? ⟨b,o+k*2,none⟩=some (.int .i64 x1):=e0
   have e1:w1.drew.cell? ⟨b,o+k*2+1,none⟩=some (.int .i64 x2):=e1
   obtain⟨v1,hv1⟩:∃z,w1.drew=z:=⟨_,rfl⟩
   rw[hv1] at HO1 HB1 hs1 c0 c1 c2 c3 c4 d0 d1 e0 e1
   rw[hv1]
   clear hv1
   go_wp2_with (at_builtin;refine wpList_app rfl (.tmp 65) (.tmp 67) 92 rfl v.heap.size 125 i0 (.agg #[.int .i64 0,.int .i64 0]) 2 16 Tryz.underlying92 hi0 hz0 hz1 hz2 rfl (by decide) (.slice A1 k c1') k (msFlat (l.take k)) rfl (HO1.out.alloc _) (v1.heap.size+1) (some ⟨v1.heap.size,0,none⟩) 1 1 [.int .i64 t,.int .i64 y] rfl rfl (Rd.new _ _ _ _) (by simp[Value.oneCell']) (by unfold maxLen;omega) (by omega) (by have:=HB1.out.size;simp;omega) ?_)
   intro A2 c2' w2 hown2 hg2 hat2
   have HB2:Hid (Below v.heap.size v w2):=hide (app_below (HB1.out.alloc hs1 _) (HO1.out.alloc _) hg2 (by simp;omega) (Nat.le_refl _))
   have HO2:=hide hown2
   clear hg2 hat2 hown2
   go_wp2_with (at_builtin;refine wpList_app rfl (.tmp 69) (.tmp 72) 92 rfl v.heap.size 125 i0 (.agg #[.int .i64 0,.int .i64 0]) 2 16 Tryz.underlying92 hi0 hz0 hz1 hz2 rfl (by decide) (.slice A2 (k+1) c2') (k+1) _ rfl HO2.out v.heap.size (some ⟨b,o+k*2,none⟩) (n-k) _ (msFlat (l.drop k)) rfl (by rw[(HLD k).out]) (HRd'.out.below HB2.out) (by intro z hz;exact msFlat_one _ z hz) (by unfold maxLen;omega) (by omega) HB2.out.size ?_)
   intro A3 c3 w3 hown3 hg3 hat3
   have HB3:Hid (Below w.heap.size w w3):=hide (HBu.out.trans ((app_below HB2.out HO2.out hg3 HB2.out.size (Nat.le_refl _)).mono hsw))
   have hlen:(addM kd l (t,y)).length=k+1+(n-k):=by rw[HPF.out];simp only[List.length_append,List.length_cons,List.length_take,List.length_drop,List.length_nil,HL.out];omega
   have hrow:msFlat (addM kd l (t,y))=msFlat (l.take k) ++ [.int .i64 t,.int .i64 y] ++ msFlat (l.drop k):=by rw[HPF.out];simp[msFlat]
   have HFin:Hid (RmPost w (addM kd l (t,y)) (.returned (.slice A3 (k+1+(n-k)) c3)) w3):=hide ⟨A3,c3,by rw[hlen],by rw[hrow];have h9:=Rd.of_own hown3;clear hown3 hrow;simpa using h9,by rw[hlen];exact own_cap hown3,own_some2 hown3 (by omega),HB3.out,own_new hown3 (by omega)⟩
   clear hlen hrow hown3 hg3 hat3
   go_wp2
   go_ret
   exact HFin.out
  obtain rfl:k=n:=by omega
  have HPF:Hid (addM kd l (t,y)=l.take k ++ [(t,y)]):=hide (by rw[List.take_of_length_le (by rw[HL.out];exact Nat.le_refl _)];exact add_last (by rw[HQ.out,HL.out]))
  have hq3:(k:Int)≤(c:Int):=by omega
  clear hlt hk hkm
  rcases A with _ | ad
  ·have hk0:k=0:=by
    rcases Nat.eq_zero_or_pos k with h | h
    ·exact h
    obtain⟨x,hx⟩:∃x,l[0]?=some x:=⟨_,List.getElem?_eq_getElem (by rw[HL.out];exact h)⟩
    obtain⟨b,o,e,_⟩:=HM.out.get hx
    cases e
   have hc0:=hA rfl
   have HM0:=hide hc0
   clear hc0
   go_upto_region 2 with fail
   refine wp_region_held_drew (S:=Kept wr) (by kernel_rfl) (Kept.drew wr) (fun hS0=>?_)
   refine tka 0 9 ?_
   refine tka 1 10 ?_
   refine tka 2 11 ?_
   refine tka 3 12 ?_
   refine tka 4 13 ?_
   refine ska 5 14 ?_
   refine ska 6 15 ?_
   refine ska 7 16 ?_
   refine ska 8 17 ?_
   refine ska 9 18 ?_
   refine ska 10 19 ?_
   refine ska 11 20 ?_
   refine ska 12 21 ?_
   refine tka 13 22 ?_
   refine wpAnyH_done (by kernel_rfl) ?_ _
   have hc0:=HM0.out
   have HBu:Hid (Below w.heap.size w wr.drew):=hide HBu.out.drew
   have HR:Hid (Rd wr.drew wr.drew.heap.size none (msFlat l)):=hide HR.out.drew
   have c0:wr.drew.cell? ⟨w.heap.size,0,none⟩=some (.int .u8 kd):=c0
   have c1:wr.drew.cell? ⟨w.heap.size,1,none⟩=some (.int .i64 j1):=c1
   have c2:wr.drew.cell? ⟨w.heap.size,2,none⟩=some (.int .i64 j2):=c2
   have c3:wr.drew.cell? ⟨w.heap.size,3,none⟩=some (.int .i64 j3):=c3
   have c4:wr.drew.cell? ⟨w.heap.size,4,none⟩=some (.int .i64 j4):=c4
   have d0:wr.drew.cell? ⟨w.heap.size+1,0,none⟩=some (.int .i64 t):=d0
   have d1:wr.drew.cell? ⟨w.heap.size+1,1,none⟩=some (.int .i64 y):=d1
   have hsw:w.heap.size≤wr.drew.heap.size:=hsw
   have hl0:w.heap.size<wr.drew.heap.size:=hl0
   have hl1:w.heap.size+1<wr.drew.heap.size:=hl1
   clear HBw hlw HM
   obtain⟨v,hv⟩:∃z,wr.drew=z:=⟨_,rfl⟩
   rw[hv] at HBu HR c0 c1 c2 c3 c4 d0 d1 hsw hl0 hl1
   rw[hv]
   clear hv
   clear hS0
   have HRt:Hid (Rd v v.heap.size none (msFlat (l.take k))):=hide (by rw[←msFlat_take];exact HR.out.take _)
   subst hk0
   subst hc0
   clear hA
   go_upto_region 6 with (at_builtin;refine wpList_app rfl (.tmp 25) (.tmp 28) 92 rfl v.heap.size 125 i0 (.agg #[.int .i64 0,.int .i64 0]) 2 16 Tryz.underlying92 hi0 hz0 hz1 hz2 rfl (by decide) (.slice none 0 0) 0 [] rfl (World.ownsRow_nil _ _ _ _) v.heap.size none 0 _ (msFlat (l.take 0)) rfl (by rw[HLT.out]) HRt.out (by intro z hz;exact msFlat_one _ z hz) (by unfold maxLen;omega) (by omega) (Nat.le_refl _) ?_)
   intro A1 c1' w1 hown1 hg1 hat1
   try simp only[Nat.zero_add,List.nil_append] at hown1
   have HO1:=hide hown1
   have HB1:Hid (Below v.heap.size v w1):=hide ((Below.refl _ v).grown hg1 (Nat.le_refl _) (fun k e=>by cases e))
   have hs1:=HB1.out.size
   have hl0w:w.heap.size<w1.heap.size:=by omega
   have hl1w:w.heap.size+1<w1.heap.size:=by omega
   have c0:=(HB1.out.cell (p:=⟨w.heap.size,0,none⟩) hl0).trans c0
   have c1:=(HB1.out.cell (p:=⟨w.heap.size,1,none⟩) hl0).trans c1
   have c2:=(HB1.out.cell (p:=⟨w.heap.size,2,none⟩) hl0).trans c2
   have c3:=(HB1.out.cell (p:=⟨w.heap.size,3,none⟩) hl0).trans c3
   have c4:=(HB1.out.cell (p:=⟨w.heap.size,4,none⟩) hl0).trans c4
   have d0:=(HB1.out.cell (p:=⟨w.heap.size+1,0,none⟩) hl1).trans d0
   have d1:=(HB1.out.cell (p:=⟨w.heap.size+1,1,none⟩) hl1).trans d1
   clear hg1 hat1 hown1
   go_upto_region 6 with fail
   refine wp_region_held_drew (S:=Kept w1) (by kernel_rfl) (Kept.drew w1) (fun hS6=>?_)
   refine tka 0 30 ?_
   refine tka 1 31 ?_
   refine tka 2 32 ?_
   refine tka 3 33 ?_
   refine tka 4 34 ?_
   refine ska 5 35 ?_
   refine ska 6 36 ?_
   refine ska 7 37 ?_
   refine ska 8 38 ?_
   refine ska 9 39 ?_
   refine ska 10 40 ?_
   refine ska 11 41 ?_
   refine ska 12 42 ?_
   refine tka 13 43 ?_
   refine wpAnyH_done (by kernel_rfl) ?_ _
   clear hS6
   have HO1:=hide HO1.out.drew
   have HB1:=hide HB1.out.drew
   have hs1:v.heap.size≤w1.drew.heap.size:=hs1
   have c0:w1.drew.cell? ⟨w.heap.size,0,none⟩=some (.int .u8 kd):=c0
   have c1:w1.drew.cell? ⟨w.heap.size,1,none⟩=some (.int .i64 j1):=c1
   have c2:w1.drew.cell? ⟨w.heap.size,2,none⟩=some (.int .i64 j2):=c2
   have c3:w1.drew.cell? ⟨w.heap.size,3,none⟩=some (.int .i64 j3):=c3
   have c4:w1.drew.cell? ⟨w.heap.size,4,none⟩=some (.int .i64 j4):=c4
   have d0:w1.drew.cell? ⟨w.heap.size+1,0,none⟩=some (.int .i64 t):=d0
   have d1:w1.drew.cell? ⟨w.heap.size+1,1,none⟩=some (.int .i64 y):=d1
   obtain⟨v1,hv1⟩:∃z,w1.drew=z:=⟨_,rfl⟩
   rw[hv1] at HO1 HB1 hs1 c0 c1 c2 c3 c4 d0 d1
   rw[hv1]
   clear hv1
   go_wp2_with (at_builtin;refine wpList_app rfl (.tmp 65) (.tmp 67) 92 rfl v.heap.size 125 i0 (.agg #[.int .i64 0,.int .i64 0]) 2 16 Tryz.underlying92 hi0 hz0 hz1 hz2 rfl (by decide) (.slice A1 0 c1') 0 (msFlat (l.take 0)) rfl (HO1.out.alloc _) (v1.heap.size+1) (some ⟨v1.heap.size,0,none⟩) 1 1 [.int .i64 t,.int .i64 y] rfl rfl (Rd.new _ _ _ _) (by simp[Value.oneCell']) (by unfold maxLen;omega) (by omega) (by have:=HB1.out.size;simp;omega) ?_)
   intro A2 c2' w2 hown2 hg2 hat2
   have HB2:Hid (Below v.heap.size v w2):=hide (app_below (HB1.out.alloc hs1 _) (HO1.out.alloc _) hg2 (by simp;omega) (Nat.le_refl _))
   have HO2:=hide hown2
   clear hg2 hat2 hown2
   go_wp2_with (at_builtin;refine wpList_app rfl (.tmp 69) (.tmp 72) 92 rfl v.heap.size 125 i0 (.agg #[.int .i64 0,.int .i64 0]) 2 16 Tryz.underlying92 hi0 hz0 hz1 hz2 rfl (by decide) (.slice A2 (0+1) c2') (0+1) _ rfl HO2.out v.heap.size _ 0 _ [] rfl rfl Rd.nil_ (by intro z hz;cases hz) (by unfold maxLen;omega) (by omega) HB2.out.size ?_)
   intro A3 c3 w3 hown3 hg3 hat3
   have HB3:Hid (Below w.heap.size w w3):=hide (HBu.out.trans ((app_below HB2.out HO2.out hg3 HB2.out.size (Nat.le_refl _)).mono hsw))
   have hlen:(addM kd l (t,y)).length=0+1:=by rw[HPF.out];simp only[List.length_append,List.length_cons,List.length_take,List.length_drop,List.length_nil,HL.out];omega
   have hrow:msFlat (addM kd l (t,y))=msFlat (l.take 0) ++ [.int .i64 t,.int .i64 y]:=by rw[HPF.out];simp[msFlat]
   have HFin:Hid (RmPost w (addM kd l (t,y)) (.returned (.slice A3 (0+1) c3)) w3):=hide ⟨A3,c3,by rw[hlen],by rw[hrow];have h9:=Rd.of_own hown3;clear hown3 hrow;simpa using h9,by rw[hlen];exact own_cap hown3,own_some2 hown3 (by omega),HB3.out,own_new hown3 (by omega)⟩
   clear hlen hrow hown3 hg3 hat3
   go_wp2
   go_ret
   exact HFin.out
  go_upto_region 2 with fail
  refine wp_region_held_drew (S:=Kept wr) (by kernel_rfl) (Kept.drew wr) (fun hS0=>?_)
  refine tka 0 9 ?_
  refine tka 1 10 ?_
  refine tka 2 11 ?_
  refine tka 3 12 ?_
  refine tka 4 13 ?_
  refine ska 5 14 ?_
  refine ska 6 15 ?_
  refine ska 7 16 ?_
  refine ska 8 17 ?_
  refine ska 9 18 ?_
  refine ska 10 19 ?_
  refine ska 11 20 ?_
  refine ska 12 21 ?_
  refine tka 13 22 ?_
  refine wpAnyH_done (by kernel_rfl) ?_ _
  have HBu:Hid (Below w.heap.size w wr.drew):=hide HBu.out.drew
  have HR:Hid (Rd wr.drew wr.drew.heap.size (some ad) (msFlat l)):=hide HR.out.drew
  have c0:wr.drew.cell? ⟨w.heap.size,0,none⟩=some (.int .u8 kd):=c0
  have c1:wr.drew.cell? ⟨w.heap.size,1,none⟩=some (.int .i64 j1):=c1
  have c2:wr.drew.cell? ⟨w.heap.size,2,none⟩=some (.int .i64 j2):=c2
  have c3:wr.drew.cell? ⟨w.heap.size,3,none⟩=some (.int .i64 j3):=c3
  have c4:wr.drew.cell? ⟨w.heap.size,4,none⟩=some (.int .i64 j4):=c4
  have d0:wr.drew.cell? ⟨w.heap.size+1,0,none⟩=some (.int .i64 t):=d0
  have d1:wr.drew.cell? ⟨w.heap.size+1,1,none⟩=some (.int .i64 y):=d1
  have hsw:w.heap.size≤wr.drew.heap.size:=hsw
  have hl0:w.heap.size<wr.drew.heap.size:=hl0
  have hl1:w.heap.size+1<wr.drew.heap.size:=hl1
  clear HBw hlw HM
  obtain⟨v,hv⟩:∃z,wr.drew=z:=⟨_,rfl⟩
  rw[hv] at HBu HR c0 c1 c2 c3 c4 d0 d1 hsw hl0 hl1
  rw[hv]
  clear hv
  clear hS0
  have HRt:Hid (Rd v v.heap.size (some ad) (msFlat (l.take k))):=hide (by rw[←msFlat_take];exact HR.out.take _)
  by_cases hkc:c=k
  ·subst hkc
   clear hA
   go_upto_region 6 with (at_builtin;refine wpList_app rfl (.tmp 25) (.tmp 28) 92 rfl v.heap.size 125 i0 (.agg #[.int .i64 0,.int .i64 0]) 2 16 Tryz.underlying92 hi0 hz0 hz1 hz2 rfl (by decide) (.slice none 0 0) 0 [] rfl (World.ownsRow_nil _ _ _ _) v.heap.size (some ad) c _ (msFlat (l.take c)) rfl (by rw[HLT.out]) HRt.out (by intro z hz;exact msFlat_one _ z hz) (by unfold maxLen;omega) (by omega) (Nat.le_refl _) ?_)
   intro A1 c1' w1 hown1 hg1 hat1
   try simp only[Nat.zero_add,List.nil_append] at hown1
   have HO1:=hide hown1
   have HB1:Hid (Below v.heap.size v w1):=hide ((Below.refl _ v).grown hg1 (Nat.le_refl _) (fun k e=>by cases e))
   have hs1:=HB1.out.size
   have hl0w:w.heap.size<w1.heap.size:=by omega
   have hl1w:w.heap.size+1<w1.heap.size:=by omega
   have c0:=(HB1.out.cell (p:=⟨w.heap.size,0,none⟩) hl0).trans c0
   have c1:=(HB1.out.cell (p:=⟨w.heap.size,1,none⟩) hl0).trans c1
   have c2:=(HB1.out.cell (p:=⟨w.heap.size,2,none⟩) hl0).trans c2
   have c3:=(HB1.out.cell (p:=⟨w.heap.size,3,none⟩) hl0).trans c3
   have c4:=(HB1.out.cell (p:=⟨w.heap.size,4,none⟩) hl0).trans c4
   have d0:=(HB1.out.cell (p:=⟨w.heap.size+1,0,none⟩) hl1).trans d0
   have d1:=(HB1.out.cell (p:=⟨w.heap.size+1,1,none⟩) hl1).trans d1
   clear hg1 hat1 hown1
   go_upto_region 6 with fail
   refine wp_region_held_drew (S:=Kept w1) (by kernel_rfl) (Kept.drew w1) (fun hS6=>?_)
   refine tka 0 30 ?_
   refine tka 1 31 ?_
   refine tka 2 32 ?_
   refine tka 3 33 ?_
   refine tka 4 34 ?_
   refine ska 5 35 ?_
   refine ska 6 36 ?_
   refine ska 7 37 ?_
   refine ska 8 38 ?_
   refine ska 9 39 ?_
   refine ska 10 40 ?_
   refine ska 11 41 ?_
   refine ska 12 42 ?_
   refine tka 13 43 ?_
   refine wpAnyH_done (by kernel_rfl) ?_ _
   clear hS6
   have HO1:=hide HO1.out.drew
   have HB1:=hide HB1.out.drew
   have hs1:v.heap.size≤w1.drew.heap.size:=hs1
   have c0:w1.drew.cell? ⟨w.heap.size,0,none⟩=some (.int .u8 kd):=c0
   have c1:w1.drew.cell? ⟨w.heap.size,1,none⟩=some (.int .i64 j1):=c1
   have c2:w1.drew.cell? ⟨w.heap.size,2,none⟩=some (.int .i64 j2):=c2
   have c3:w1.drew.cell? ⟨w.heap.size,3,none⟩=some (.int .i64 j3):=c3
   have c4:w1.drew.cell? ⟨w.heap.size,4,none⟩=some (.int .i64 j4):=c4
   have d0:w1.drew.cell? ⟨w.heap.size+1,0,none⟩=some (.int .i64 t):=d0
   have d1:w1.drew.cell? ⟨w.heap.size+1,1,none⟩=some (.int .i64 y):=d1
   obtain⟨v1,hv1⟩:∃z,w1.drew=z:=⟨_,rfl⟩
   rw[hv1] at HO1 HB1 hs1 c0 c1 c2 c3 c4 d0 d1
   rw[hv1]
   clear hv1
   go_wp2_with (at_builtin;refine wpList_app rfl (.tmp 65) (.tmp 67) 92 rfl v.heap.size 125 i0 (.agg #[.int .i64 0,.int .i64 0]) 2 16 Tryz.underlying92 hi0 hz0 hz1 hz2 rfl (by decide) (.slice A1 c c1') c (msFlat (l.take c)) rfl (HO1.out.alloc _) (v1.heap.size+1) (some ⟨v1.heap.size,0,none⟩) 1 1 [.int .i64 t,.int .i64 y] rfl rfl (Rd.new _ _ _ _) (by simp[Value.oneCell']) (by unfold maxLen;omega) (by omega) (by have:=HB1.out.size;simp;omega) ?_)
   intro A2 c2' w2 hown2 hg2 hat2
   have HB2:Hid (Below v.heap.size v w2):=hide (app_below (HB1.out.alloc hs1 _) (HO1.out.alloc _) hg2 (by simp;omega) (Nat.le_refl _))
   have HO2:=hide hown2
   clear hg2 hat2 hown2
   go_wp2_with (at_builtin;refine wpList_app rfl (.tmp 69) (.tmp 72) 92 rfl v.heap.size 125 i0 (.agg #[.int .i64 0,.int .i64 0]) 2 16 Tryz.underlying92 hi0 hz0 hz1 hz2 rfl (by decide) (.slice A2 (c+1) c2') (c+1) _ rfl HO2.out v.heap.size _ 0 _ [] rfl rfl Rd.nil_ (by intro z hz;cases hz) (by unfold maxLen;omega) (by omega) HB2.out.size ?_)
   intro A3 c3 w3 hown3 hg3 hat3
   have HB3:Hid (Below w.heap.size w w3):=hide (HBu.out.trans ((app_below HB2.out HO2.out hg3 HB2.out.size (Nat.le_refl _)).mono hsw))
   have hlen:(addM kd l (t,y)).length=c+1:=by rw[HPF.out];simp only[List.length_append,List.length_cons,List.length_take,List.length_drop,List.length_nil,HL.out];omega
   have hrow:msFlat (addM kd l (t,y))=msFlat (l.take c) ++ [.int .i64 t,.int .i64 y]:=by rw[HPF.out];simp[msFlat]
   have HFin:Hid (RmPost w (addM kd l (t,y)) (.returned (.slice A3 (c+1) c3)) w3):=hide ⟨A3,c3,by rw[hlen],by rw[hrow];have h9:=Rd.of_own hown3;clear hown3 hrow;simpa using h9,by rw[hlen];exact own_cap hown3,own_some2 hown3 (by omega),HB3.out,own_new hown3 (by omega)⟩
   clear hlen hrow hown3 hg3 hat3
   go_wp2
   go_ret
   exact HFin.out
  have hlt3:(k:Int)<(c:Int):=by omega
  have hne:¬(c:Int)=(k:Int):=by omega
  clear hA
  go_upto_region 6 with (at_builtin;refine wpList_app rfl (.tmp 25) (.tmp 28) 92 rfl v.heap.size 125 i0 (.agg #[.int .i64 0,.int .i64 0]) 2 16 Tryz.underlying92 hi0 hz0 hz1 hz2 rfl (by decide) (.slice none 0 0) 0 [] rfl (World.ownsRow_nil _ _ _ _) v.heap.size (some ad) k _ (msFlat (l.take k)) rfl (by rw[HLT.out]) HRt.out (by intro z hz;exact msFlat_one _ z hz) (by unfold maxLen;omega) (by omega) (Nat.le_refl _) ?_)
  intro A1 c1' w1 hown1 hg1 hat1
  try simp only[Nat.zero_add,List.nil_append] at hown1
  have HO1:=hide hown1
  have HB1:Hid (Below v.heap.size v w1):=hide ((Below.refl _ v).grown hg1 (Nat.le_refl _) (fun k e=>by cases e))
  have hs1:=HB1.out.size
  have hl0w:w.heap.size<w1.heap.size:=by omega
  have hl1w:w.heap.size+1<w1.heap.size:=by omega
  have c0:=(HB1.out.cell (p:=⟨w.heap.size,0,none⟩) hl0).trans c0
  have c1:=(HB1.out.cell (p:=⟨w.heap.size,1,none⟩) hl0).trans c1
  have c2:=(HB1.out.cell (p:=⟨w.heap.size,2,none⟩) hl0).trans c2
  have c3:=(HB1.out.cell (p:=⟨w.heap.size,3,none⟩) hl0).trans c3
  have c4:=(HB1.out.cell (p:=⟨w.heap.size,4,none⟩) hl0).trans c4
  have d0:=(HB1.out.cell (p:=⟨w.heap.size+1,0,none⟩) hl1).trans d0
  have d1:=(HB1.out.cell (p:=⟨w.heap.size+1,1,none⟩) hl1).trans d1
  clear hg1 hat1 hown1
  go_upto_region 6 with fail
  refine wp_region_held_drew (S:=Kept w1) (by kernel_rfl) (Kept.drew w1) (fun hS6=>?_)
  refine tka 0 30 ?_
  refine tka 1 31 ?_
  refine tka 2 32 ?_
  refine tka 3 33 ?_
  refine tka 4 34 ?_
  refine ska 5 35 ?_
  refine ska 6 36 ?_
  refine ska 7 37 ?_
  refine ska 8 38 ?_
  refine ska 9 39 ?_
  refine ska 10 40 ?_
  refine ska 11 41 ?_
  refine ska 12 42 ?_
  refine tka 13 43 ?_
  refine wpAnyH_done (by kernel_rfl) ?_ _
  clear hS6
  have HO1:=hide HO1.out.drew
  have HB1:=hide HB1.out.drew
  have hs1:v.heap.size≤w1.drew.heap.size:=hs1
  have c0:w1.drew.cell? ⟨w.heap.size,0,none⟩=some (.int .u8 kd):=c0
  have c1:w1.drew.cell? ⟨w.heap.size,1,none⟩=some (.int .i64 j1):=c1
  have c2:w1.drew.cell? ⟨w.heap.size,2,none⟩=some (.int .i64 j2):=c2
  have c3:w1.drew.cell? ⟨w.heap.size,3,none⟩=some (.int .i64 j3):=c3
  have c4:w1.drew.cell? ⟨w.heap.size,4,none⟩=some (.int .i64 j4):=c4
  have d0:w1.drew.cell? ⟨w.heap.size+1,0,none⟩=some (.int .i64 t):=d0
  have d1:w1.drew.cell? ⟨w.heap.size+1,1,none⟩=some (.int .i64 y):=d1
  obtain⟨v1,hv1⟩:∃z,w1.drew=z:=⟨_,rfl⟩
  rw[hv1] at HO1 HB1 hs1 c0 c1 c2 c3 c4 d0 d1
  rw[hv1]
  clear hv1
  go_wp2_with (at_builtin;refine wpList_app rfl (.tmp 65) (.tmp 67) 92 rfl v.heap.size 125 i0 (.agg #[.int .i64 0,.int .i64 0]) 2 16 Tryz.underlying92 hi0 hz0 hz1 hz2 rfl (by decide) (.slice A1 k c1') k (msFlat (l.take k)) rfl (HO1.out.alloc _) (v1.heap.size+1) (some ⟨v1.heap.size,0,none⟩) 1 1 [.int .i64 t,.int .i64 y] rfl rfl (Rd.new _ _ _ _) (by simp[Value.oneCell']) (by unfold maxLen;omega) (by omega) (by have:=HB1.out.size;simp;omega) ?_)
  intro A2 c2' w2 hown2 hg2 hat2
  have HB2:Hid (Below v.heap.size v w2):=hide (app_below (HB1.out.alloc hs1 _) (HO1.out.alloc _) hg2 (by simp;omega) (Nat.le_refl _))
  have HO2:=hide hown2
  clear hg2 hat2 hown2
  go_wp2_with (at_builtin;refine wpList_app rfl (.tmp 69) (.tmp 72) 92 rfl v.heap.size 125 i0 (.agg #[.int .i64 0,.int .i64 0]) 2 16 Tryz.underlying92 hi0 hz0 hz1 hz2 rfl (by decide) (.slice A2 (k+1) c2') (k+1) _ rfl HO2.out v.heap.size _ 0 _ [] rfl rfl Rd.nil_ (by intro z hz;cases hz) (by unfold maxLen;omega) (by omega) HB2.out.size ?_)
  intro A3 c3 w3 hown3 hg3 hat3
  have HB3:Hid (Below w.heap.size w w3):=hide (HBu.out.trans ((app_below HB2.out HO2.out hg3 HB2.out.size (Nat.le_refl _)).mono hsw))
  have hlen:(addM kd l (t,y)).length=k+1:=by rw[HPF.out];simp only[List.length_append,List.length_cons,List.length_take,List.length_drop,List.length_nil,HL.out];omega
  have hrow:msFlat (addM kd l (t,y))=msFlat (l.take k) ++ [.int .i64 t,.int .i64 y]:=by rw[HPF.out];simp[msFlat]
  have HFin:Hid (RmPost w (addM kd l (t,y)) (.returned (.slice A3 (k+1) c3)) w3):=hide ⟨A3,c3,by rw[hlen],by rw[hrow];have h9:=Rd.of_own hown3;clear hown3 hrow;simpa using h9,by rw[hlen];exact own_cap hown3,own_some2 hown3 (by omega),HB3.out,own_new hown3 (by omega)⟩
  clear hlen hrow hown3 hg3 hat3
  go_wp2
  go_ret
  exact HFin.out
theorem docM_take (k:Int) {d:List Ms} {i:Nat} {m:Ms} (h:d[i]?=some m):docM k (d.take (i+1))=addM k (docM k (d.take i)) m:=by
 rw[List.take_add_one,h];exact docM_snoc k _ m
theorem r7give_any (w:World) (a n:Int) (ha:-9223372036854775808≤a∧a≤9223372036854775807):Calls Tryz.prog 85 #[.int .i64 a,.int .i64 n] w fun e w'=>e = .returned (.int .i64 (evenF a n))∧w=w':=by
 by_cases h2:n<1
 ·go_enter Tryz.func85,Tryz.ntmps85
  go_wp2
  go_ret
  exact⟨by rw[show evenF a n=0 by simp[evenF,shareF,h2]];rfl,rfl⟩
 by_cases h3:a<0
 ·go_enter Tryz.func85,Tryz.ntmps85
  go_wp2
  go_ret
  exact⟨by rw[show evenF a n=0 by simp[evenF,shareF,h3]];rfl,rfl⟩
 have hq:=tdiv_in (a:=a) (n:=n) (by omega) ha.2 (by omega)
 have w1:IntKind.i64.wrap (a.tdiv n)=a.tdiv n:=IntWalk.i64_in _ (by omega)
 have d0:¬n=0:=by omega
 go_enter Tryz.func85,Tryz.ntmps85
 go_wp2
 go_ret
 exact⟨by rw[show evenF a n=a.tdiv n by rw[evenF,show shareF a n=(a.tdiv n,0) by rw[shareF,if_neg (by omega)]];rfl];rfl,rfl⟩
theorem rsend1_any (w:World) (j1 j2 j3 j4 v y:Int) (ch:Bool) (A:Option Addr) (es:List Ed) (L c:Nat) (B:Value) (hL:es.length=L) (hE:Eds w w.heap.size A es) (hLb:L≤400) (hy:-9223372036854775808≤y∧y≤9223372036854775807) :
  Calls Tryz.prog 62 #[.agg #[.int .u8 1,.int .i64 j1,.int .i64 j2,.int .i64 j3,.int .i64 j4],.int .i64 v,.int .i64 y,.bool ch,.slice A L c,B] w (RmPost w (docM 1 (rkMs y es))):=by
 obtain⟨u,hu⟩:∃u,w.alloc (.cells #[.int .u8 1,.int .i64 j1,.int .i64 j2,.int .i64 j3,.int .i64 j4] 26)=u:=⟨_,rfl⟩
 have hzu:u.heap.size=w.heap.size+1:=by rw[←hu];simp
 have HBu:Hid (Below w.heap.size w u):=hide (by rw[←hu];exact (Below.refl _ _).alloc (Nat.le_refl _) _)
 have M0:=hide (show u.heap[w.heap.size]?=some (.cells #[.int .u8 1,.int .i64 j1,.int .i64 j2,.int .i64 j3,.int .i64 j4] 26) by rw[←hu];exact heap_alloc_last _ _)
 have HU:=hide hu
 obtain⟨c0,c1,c2,c3,c4⟩:=zr5 M0.out
 have hl0:w.heap.size<u.heap.size:=by omega
 have HE:=hide (hE.next HBu.out)
 have HL:=hide hL
 have HLM:Hid ((rkMs y es).length=L):=hide (by unfold rkMs;rw[List.length_map];exact hL)
 clear hu hE hL
 go_enter Tryz.func62,Tryz.ntmps62
 go_wp2
 rw[HU.out]
 go_loopw [13,16] (fun v13 v16 wr=>∃(i m:Nat) (l:List Ms) (Am:Option Addr) (cm:Nat),i≤L∧v16 = .int .i64 i∧v13 = .slice Am m cm∧Hid (l.length=m)∧Hid (docM 1 ((rkMs y es).take i)=l)∧m≤i∧m≤cm∧Hid ((Am=none→cm=0)∧NewA w.heap.size Am)∧Hid (Rd wr wr.heap.size Am (msFlat l))∧Hid (Below u.heap.size u wr)) (fun _ v16 _=>L-(intOf v16).toNat)
 case atStart=>exact⟨0,0,[],none,0,by omega,rfl,rfl,hide rfl,hide rfl,by omega,by omega,hide ⟨fun _=>rfl,NewA.none_ _⟩,hide Rd.nil_,hide (Below.refl _ _)⟩
 case round=>
  obtain⟨i,m,l,Am,cm,hi,rfl,rfl,HLm,HD,hmi,hmc,HA,HR,HBw⟩:=hrel
  have hsz:=HBw.out.size
  by_cases hlt:i<L
  ·obtain⟨⟨x0,t,z⟩,he⟩:∃e,es[i]?=some e:=⟨_,List.getElem?_eq_getElem (by rw[HL.out];exact hlt)⟩
   obtain⟨b,off,rfl,hbl,d0,d1,d2,d3,d4⟩:=HE.out.get he
   have hlc (j:Nat):wr.cell? ⟨b,off+i*3+j,none⟩=u.cell? ⟨b,off+i*3+j,none⟩:=HBw.out.cell (p:=⟨b,off+i*3+j,none⟩) hbl
   have d0:=(hlc 0).trans d0
   have d1:=(hlc 1).trans d1
   have d2:=(hlc 2).trans d2
   dsimp only at d0 d1 d2 d3 d4
   rw[Nat.add_zero] at d0
   have c0:=(HBw.out.cell (p:=⟨w.heap.size,0,none⟩) hl0).trans c0
   have c1:=(HBw.out.cell (p:=⟨w.heap.size,1,none⟩) hl0).trans c1
   have c2:=(HBw.out.cell (p:=⟨w.heap.size,2,none⟩) hl0).trans c2
   have c3:=(HBw.out.cell (p:=⟨w.heap.size,3,none⟩) hl0).trans c3
   have c4:=(HBw.out.cell (p:=⟨w.heap.size,4,none⟩) hl0).trans c4
   obtain⟨g,hg⟩:∃g,evenF y L=g:=⟨_,rfl⟩
   have HG:=hide hg
   have HNext:Hid (docM 1 ((rkMs y es).take (i+1))=addM 1 l (t,g)):=hide (by
    rw[docM_take 1 (m:=(t,g)) (by unfold rkMs;rw[List.getElem?_map,he,←hg,HL.out];rfl),HD.out])
   have hal:=add_len 1 (t,g) l
   rw[HLm.out] at hal
   obtain⟨l2,hl2⟩:∃l2,addM 1 l (t,g)=l2:=⟨_,rfl⟩
   rw[hl2] at hal HNext
   have HL2:=hide hl2
   have hI0:(0:Int)≤(i:Int):=by omega
   have hI1:(i:Int)<(L:Int):=by omega
   have hbw:b<wr.heap.size:=by omega
   have hlw:w.heap.size<wr.heap.size:=by omega
   clear d0 d2 d3 d4
   clear he hlc hg hl2
   go_upto_region 12 with fail
   refine wp_region_held_drew (S:=Kept wr) (by kernel_rfl) (Kept.drew wr) (fun hS0=>?_)
   refine tka 0 51 ?_
   refine tka 1 52 ?_
   refine tka 2 53 ?_
   refine tka 3 54 ?_
   refine tka 4 55 ?_
   refine tka 5 56 ?_
   refine tka 6 57 ?_
   refine tka 7 58 ?_
   refine tka 8 59 ?_
   refine tka 9 60 ?_
   refine ck 10 61 fun K hK=>?_
   go_simp
   refine (r7give_any _ y (L:Int) hy).mono ?_
   rintro e z1 ⟨rfl,rfl⟩
   rw[HG.out]
   have HZs:Hid (wr.heap.size≤wr.drew.heap.size):=hide (Nat.le_refl _)
   have HZ:Hid (Below wr.heap.size wr wr.drew):=hide (below_dr0q _ wr)
   have HKZ:Hid (Kept wr wr.drew):=hide hS0
   have HRZ:Hid (Rd wr.drew wr.drew.heap.size Am (msFlat l)):=hide HR.out.drew
   go_wp2_with fail
   refine hK.out _ _ hS0 (fun hSn=>?_)
   clear hK K
   try simp only[zqd,zqe,zqf]
   refine tka 11 62 ?_
   refine ck 12 63 fun K hK=>?_
   go_simp
   refine (radd10_any _ 1 j1 j2 j3 j4 Am l m cm t g HLm.out hmc HA.out.1 (by omega) HRZ.out).mono ?_
   rintro e z2 ⟨A',c',rfl,r1,r2,r3,hz2,hw2⟩
   rw[HL2.out] at r1 r2 ⊢
   have hS1:Kept wr z2:=HKZ.out.below HZs.out hz2
   have HB2:Hid (Below u.heap.size u z2):=hide (HBw.out.trans (HZ.out.trans (hz2.mono HZs.out) |>.mono hsz))
   have HR2:=hide r1
   have HA2:Hid ((A'=none→c'=0)∧NewA w.heap.size A'):=hide (And.intro r3 (hw2.mono (by have h1:=HBu.out.size;have h2:=HBw.out.size;have h3:=HZ.out.size;omega)))
   clear r1 r3 hz2 hw2
   go_wp2_with fail
   refine hK.out _ _ hS1 (fun hSn=>?_)
   clear hK K
   try simp only[zqd,zqe,zqf]
   refine tka 13 13 ?_
   refine wpAnyH_done (by kernel_rfl) ?_ _
   have c0:=(hS1 ⟨w.heap.size,0,none⟩ hlw).trans c0
   clear hS0 hSn hS1
   go_wp2
   go_roundw
   case rel=>exact⟨i+1,_,l2,A',c',by omega,by go_num,rfl,hide rfl,HNext,by omega,r2,HA2,HR2,HB2⟩
   case measure=>simp[intOf];omega
  obtain rfl:i=L:=by omega
  have HFin:Hid (RmPost w (docM 1 (rkMs y es)) (.returned (.slice Am m cm)) wr):=hide (by
   have h:=HD.out
   rw[List.take_of_length_le (by rw[HLM.out];exact Nat.le_refl _)] at h
   rw[h]
   exact⟨Am,cm,by rw[HLm.out],HR.out,by rw[HLm.out];exact hmc,HA.out.1,HBu.out.trans (HBw.out.mono (by omega)),HA.out.2⟩)
  clear c0 c1 c2 c3 c4
  go_wp2
  go_ret
  exact HFin.out
theorem rsend3_any (w:World) (j1 j2 j3 j4 v y:Int) (A:Option Addr) (es:List Ed) (L c:Nat) (B:Value) (hL:es.length=L) (hE:Eds w w.heap.size A es) (hLb:L≤400) :
  Calls Tryz.prog 62 #[.agg #[.int .u8 3,.int .i64 j1,.int .i64 j2,.int .i64 j3,.int .i64 j4],.int .i64 v,.int .i64 y,.bool true,.slice A L c,B] w (RmPost w (docM 3 (wyMs true y es))):=by
 obtain⟨u,hu⟩:∃u,w.alloc (.cells #[.int .u8 3,.int .i64 j1,.int .i64 j2,.int .i64 j3,.int .i64 j4] 26)=u:=⟨_,rfl⟩
 have hzu:u.heap.size=w.heap.size+1:=by rw[←hu];simp
 have HBu:Hid (Below w.heap.size w u):=hide (by rw[←hu];exact (Below.refl _ _).alloc (Nat.le_refl _) _)
 have M0:=hide (show u.heap[w.heap.size]?=some (.cells #[.int .u8 3,.int .i64 j1,.int .i64 j2,.int .i64 j3,.int .i64 j4] 26) by rw[←hu];exact heap_alloc_last _ _)
 have HU:=hide hu
 obtain⟨c0,c1,c2,c3,c4⟩:=zr5 M0.out
 have hl0:w.heap.size<u.heap.size:=by omega
 have HE:=hide (hE.next HBu.out)
 have HL:=hide hL
 have HLM:Hid ((wyMs true y es).length=L):=hide (by unfold wyMs;rw[if_pos rfl,List.length_map];exact hL)
 clear hu hE hL
 go_enter Tryz.func62,Tryz.ntmps62
 go_wp2
 rw[HU.out]
 go_loopw [13,16] (fun v13 v16 wr=>∃(i m:Nat) (l:List Ms) (Am:Option Addr) (cm:Nat),i≤L∧v16 = .int .i64 i∧v13 = .slice Am m cm∧Hid (l.length=m)∧Hid (docM 3 ((wyMs true y es).take i)=l)∧m≤i∧m≤cm∧Hid ((Am=none→cm=0)∧NewA w.heap.size Am)∧Hid (Rd wr wr.heap.size Am (msFlat l))∧Hid (Below u.heap.size u wr)) (fun _ v16 _=>L-(intOf v16).toNat)
 case atStart=>exact⟨0,0,[],none,0,by omega,rfl,rfl,hide rfl,hide rfl,by omega,by omega,hide ⟨fun _=>rfl,NewA.none_ _⟩,hide Rd.nil_,hide (Below.refl _ _)⟩
 case round=>
  obtain⟨i,m,l,Am,cm,hi,rfl,rfl,HLm,HD,hmi,hmc,HA,HR,HBw⟩:=hrel
  have hsz:=HBw.out.size
  by_cases hlt:i<L
  ·obtain⟨⟨x0,t,z⟩,he⟩:∃e,es[i]?=some e:=⟨_,List.getElem?_eq_getElem (by rw[HL.out];exact hlt)⟩
   obtain⟨b,off,rfl,hbl,d0,d1,d2,d3,d4⟩:=HE.out.get he
   have hlc (j:Nat):wr.cell? ⟨b,off+i*3+j,none⟩=u.cell? ⟨b,off+i*3+j,none⟩:=HBw.out.cell (p:=⟨b,off+i*3+j,none⟩) hbl
   have d0:=(hlc 0).trans d0
   have d1:=(hlc 1).trans d1
   have d2:=(hlc 2).trans d2
   dsimp only at d0 d1 d2 d3 d4
   rw[Nat.add_zero] at d0
   have c0:=(HBw.out.cell (p:=⟨w.heap.size,0,none⟩) hl0).trans c0
   have c1:=(HBw.out.cell (p:=⟨w.heap.size,1,none⟩) hl0).trans c1
   have c2:=(HBw.out.cell (p:=⟨w.heap.size,2,none⟩) hl0).trans c2
   have c3:=(HBw.out.cell (p:=⟨w.heap.size,3,none⟩) hl0).trans c3
   have c4:=(HBw.out.cell (p:=⟨w.heap.size,4,none⟩) hl0).trans c4
   obtain⟨g,hg⟩:∃g,dadd y z=g:=⟨_,rfl⟩
   have HG:=hide hg
   have HNext:Hid (docM 3 ((wyMs true y es).take (i+1))=addM 3 l (t,g)):=hide (by
    rw[docM_take 3 (m:=(t,g)) (by unfold wyMs;rw[if_pos rfl,List.getElem?_map,he,←hg];rfl),HD.out])
   have hal:=add_len 3 (t,g) l
   rw[HLm.out] at hal
   obtain⟨l2,hl2⟩:∃l2,addM 3 l (t,g)=l2:=⟨_,rfl⟩
   rw[hl2] at hal HNext
   have HL2:=hide hl2
   have hI0:(0:Int)≤(i:Int):=by omega
   have hI1:(i:Int)<(L:Int):=by omega
   have hbw:b<wr.heap.size:=by omega
   have hlw:w.heap.size<wr.heap.size:=by omega
   clear d3 d4
   clear he hlc hg hl2
   go_upto_region 14 with fail
   refine wp_region_held_drew (S:=Kept wr) (by kernel_rfl) (Kept.drew wr) (fun hS0=>?_)
   refine tka 0 70 ?_
   refine tka 1 71 ?_
   refine tka 2 72 ?_
   refine tka 3 73 ?_
   refine tka 4 74 ?_
   refine tka 5 75 ?_
   refine tka 6 76 ?_
   refine tka 7 77 ?_
   refine tka 8 78 ?_
   refine tka 9 79 ?_
   refine tka 10 80 ?_
   refine tka 11 81 ?_
   refine ck 12 82 fun K hK=>?_
   go_simp
   refine (rgive_any _ y x0 t z).mono ?_
   rintro e z1 ⟨rfl,hz⟩
   rw[HG.out]
   have HZ:Hid (Below wr.heap.size wr z1):=hide ((below_dr0q _ wr).trans hz)
   have HZs:Hid (wr.heap.size≤z1.heap.size):=hide HZ.out.size
   have hSg:Kept wr z1:=hS0.below (by simp) hz
   have HKZ:Hid (Kept wr z1):=hide hSg
   have HRZ:Hid (Rd z1 z1.heap.size Am (msFlat l)):=hide (HR.out.drew.next hz)
   clear hz
   go_wp2_with fail
   refine hK.out _ _ hSg (fun hSn=>?_)
   clear hK K
   try simp only[zqd,zqe,zqf]
   refine tka 13 83 ?_
   refine ck 14 84 fun K hK=>?_
   go_simp
   refine (radd10_any _ 3 j1 j2 j3 j4 Am l m cm t g HLm.out hmc HA.out.1 (by omega) HRZ.out).mono ?_
   rintro e z2 ⟨A',c',rfl,r1,r2,r3,hz2,hw2⟩
   rw[HL2.out] at r1 r2 ⊢
   have hS1:Kept wr z2:=HKZ.out.below HZs.out hz2
   have HB2:Hid (Below u.heap.size u z2):=hide (HBw.out.trans (HZ.out.trans (hz2.mono HZs.out) |>.mono hsz))
   have HR2:=hide r1
   have HA2:Hid ((A'=none→c'=0)∧NewA w.heap.size A'):=hide (And.intro r3 (hw2.mono (by have h1:=HBu.out.size;have h2:=HBw.out.size;have h3:=HZ.out.size;omega)))
   clear r1 r3 hz2 hw2
   go_wp2_with fail
   refine hK.out _ _ hS1 (fun hSn=>?_)
   clear hK K
   try simp only[zqd,zqe,zqf]
   refine tka 15 13 ?_
   refine wpAnyH_done (by kernel_rfl) ?_ _
   have c0:=(hS1 ⟨w.heap.size,0,none⟩ hlw).trans c0
   clear hS0 hSn hS1 hSg
   go_wp2
   go_roundw
   case rel=>exact⟨i+1,_,l2,A',c',by omega,by go_num,rfl,hide rfl,HNext,by omega,r2,HA2,HR2,HB2⟩
   case measure=>simp[intOf];omega
  obtain rfl:i=L:=by omega
  have HFin:Hid (RmPost w (docM 3 (wyMs true y es)) (.returned (.slice Am m cm)) wr):=hide (by
   have h:=HD.out
   rw[List.take_of_length_le (by rw[HLM.out];exact Nat.le_refl _)] at h
   rw[h]
   exact⟨Am,cm,by rw[HLm.out],HR.out,by rw[HLm.out];exact hmc,HA.out.1,HBu.out.trans (HBw.out.mono (by omega)),HA.out.2⟩)
  clear c0 c1 c2 c3 c4
  go_wp2
  go_ret
  exact HFin.out
theorem rsend0_any (w:World) (k j1 j2 j3 j4 v y:Int) (ch:Bool) (A:Option Addr) (L c:Nat) (B:Value) (hLb:L≤400) (k1:¬k=1) (k2:¬k=2) (k3:¬k=3) :
  Calls Tryz.prog 62 #[.agg #[.int .u8 k,.int .i64 j1,.int .i64 j2,.int .i64 j3,.int .i64 j4],.int .i64 v,.int .i64 y,.bool ch,.slice A L c,B] w (RmPost w []):=by
 obtain⟨u,hu⟩:∃u,w.alloc (.cells #[.int .u8 k,.int .i64 j1,.int .i64 j2,.int .i64 j3,.int .i64 j4] 26)=u:=⟨_,rfl⟩
 have hzu:u.heap.size=w.heap.size+1:=by rw[←hu];simp
 have HBu:Hid (Below w.heap.size w u):=hide (by rw[←hu];exact (Below.refl _ _).alloc (Nat.le_refl _) _)
 have M0:=hide (show u.heap[w.heap.size]?=some (.cells #[.int .u8 k,.int .i64 j1,.int .i64 j2,.int .i64 j3,.int .i64 j4] 26) by rw[←hu];exact heap_alloc_last _ _)
 have HU:=hide hu
 obtain⟨c0,c1,c2,c3,c4⟩:=zr5 M0.out
 have hl0:w.heap.size<u.heap.size:=by omega
 clear hu
 go_enter Tryz.func62,Tryz.ntmps62
 go_wp2
 rw[HU.out]
 go_loop [13,16] (fun v13 v16=>∃i:Nat,i≤L∧v16 = .int .i64 i∧v13 = .slice none 0 0) (fun _ v16=>L-(intOf v16).toNat)
 case atStart=>exact⟨0,by omega,rfl,rfl⟩
 case round=>
  obtain⟨i,hi,rfl,rfl⟩:=hrel
  by_cases hlt:i<L
  ·have hI0:(0:Int)≤(i:Int):=by omega
   have hI1:(i:Int)<(L:Int):=by omega
   go_wp2
   go_round
   case rel=>exact⟨i+1,by omega,by go_num,rfl⟩
   case measure=>simp[intOf];omega
  obtain rfl:i=L:=by omega
  go_wp2
  go_ret
  exact⟨none,0,rfl,Rd.nil_,Nat.le_refl _,fun _=>rfl,HBu.out,NewA.none_ _⟩
theorem rsend3f_any (w:World) (j1 j2 j3 j4 v y:Int) (A:Option Addr) (L c:Nat) (B:Value) (hLb:L≤400) :
  Calls Tryz.prog 62 #[.agg #[.int .u8 3,.int .i64 j1,.int .i64 j2,.int .i64 j3,.int .i64 j4],.int .i64 v,.int .i64 y,.bool false,.slice A L c,B] w (RmPost w []):=by
 obtain⟨u,hu⟩:∃u,w.alloc (.cells #[.int .u8 3,.int .i64 j1,.int .i64 j2,.int .i64 j3,.int .i64 j4] 26)=u:=⟨_,rfl⟩
 have hzu:u.heap.size=w.heap.size+1:=by rw[←hu];simp
 have HBu:Hid (Below w.heap.size w u):=hide (by rw[←hu];exact (Below.refl _ _).alloc (Nat.le_refl _) _)
 have M0:=hide (show u.heap[w.heap.size]?=some (.cells #[.int .u8 3,.int .i64 j1,.int .i64 j2,.int .i64 j3,.int .i64 j4] 26) by rw[←hu];exact heap_alloc_last _ _)
 have HU:=hide hu
 obtain⟨c0,c1,c2,c3,c4⟩:=zr5 M0.out
 have hl0:w.heap.size<u.heap.size:=by omega
 clear hu
 go_enter Tryz.func62,Tryz.ntmps62
 go_wp2
 rw[HU.out]
 go_loop [13,16] (fun v13 v16=>∃i:Nat,i≤L∧v16 = .int .i64 i∧v13 = .slice none 0 0) (fun _ v16=>L-(intOf v16).toNat)
 case atStart=>exact⟨0,by omega,rfl,rfl⟩
 case round=>
  obtain⟨i,hi,rfl,rfl⟩:=hrel
  by_cases hlt:i<L
  ·have hI0:(0:Int)≤(i:Int):=by omega
   have hI1:(i:Int)<(L:Int):=by omega
   go_wp2
   go_round
   case rel=>exact⟨i+1,by omega,by go_num,rfl⟩
   case measure=>simp[intOf];omega
  obtain rfl:i=L:=by omega
  go_wp2
  go_ret
  exact⟨none,0,rfl,Rd.nil_,Nat.le_refl _,fun _=>rfl,HBu.out,NewA.none_ _⟩
theorem rsend2f_any (w:World) (j1 j2 j3 j4 v y:Int) (A:Option Addr) (L c:Nat) (B:Value) (hLb:L≤400) :
  Calls Tryz.prog 62 #[.agg #[.int .u8 2,.int .i64 j1,.int .i64 j2,.int .i64 j3,.int .i64 j4],.int .i64 v,.int .i64 y,.bool false,.slice A L c,B] w (RmPost w []):=by
 obtain⟨u,hu⟩:∃u,w.alloc (.cells #[.int .u8 2,.int .i64 j1,.int .i64 j2,.int .i64 j3,.int .i64 j4] 26)=u:=⟨_,rfl⟩
 have hzu:u.heap.size=w.heap.size+1:=by rw[←hu];simp
 have HBu:Hid (Below w.heap.size w u):=hide (by rw[←hu];exact (Below.refl _ _).alloc (Nat.le_refl _) _)
 have M0:=hide (show u.heap[w.heap.size]?=some (.cells #[.int .u8 2,.int .i64 j1,.int .i64 j2,.int .i64 j3,.int .i64 j4] 26) by rw[←hu];exact heap_alloc_last _ _)
 have HU:=hide hu
 obtain⟨c0,c1,c2,c3,c4⟩:=zr5 M0.out
 have hl0:w.heap.size<u.heap.size:=by omega
 clear hu
 go_enter Tryz.func62,Tryz.ntmps62
 go_wp2
 rw[HU.out]
 go_loop [13,16] (fun v13 v16=>∃i:Nat,i≤L∧v16 = .int .i64 i∧v13 = .slice none 0 0) (fun _ v16=>L-(intOf v16).toNat)
 case atStart=>exact⟨0,by omega,rfl,rfl⟩
 case round=>
  obtain⟨i,hi,rfl,rfl⟩:=hrel
  by_cases hlt:i<L
  ·have hI0:(0:Int)≤(i:Int):=by omega
   have hI1:(i:Int)<(L:Int):=by omega
   go_wp2
   go_round
   case rel=>exact⟨i+1,by omega,by go_num,rfl⟩
   case measure=>simp[intOf];omega
  obtain rfl:i=L:=by omega
  go_wp2
  go_ret
  exact⟨none,0,rfl,Rd.nil_,Nat.le_refl _,fun _=>rfl,HBu.out,NewA.none_ _⟩
theorem rsend2_any (w:World) (j1 j2 j3 j4 v y:Int) (A1 A2:Option Addr) (outs backs:List Ed) (n1 c1 n2 c2:Nat) (h1:outs.length=n1) (h2:backs.length=n2) (hn1:n1≤400) (hn2:n2≤400) (e1:Eds w w.heap.size A1 outs) (e2:Eds w w.heap.size A2 backs) :
  Calls Tryz.prog 62 #[.agg #[.int .u8 2,.int .i64 j1,.int .i64 j2,.int .i64 j3,.int .i64 j4],.int .i64 v,.int .i64 y,.bool true,.slice A1 n1 c1,.slice A2 n2 c2] w (RmPost w (lbMs true v y outs backs)):=by
 obtain⟨i0,hi0,hz0,hz1,hz2⟩:=info_parts (show (Tryz.prog.info? 125).map (fun i=>(i.zero,i.size,i.bytes))=some (some (.agg #[.int .i64 0,.int .i64 0]),2,16) by kernel_rfl)
 obtain⟨u,hu⟩:∃u,w.alloc (.cells #[.int .u8 2,.int .i64 j1,.int .i64 j2,.int .i64 j3,.int .i64 j4] 26)=u:=⟨_,rfl⟩
 have hzu:u.heap.size=w.heap.size+1:=by rw[←hu];simp
 have HBu:Hid (Below w.heap.size w u):=hide (by rw[←hu];exact (Below.refl _ _).alloc (Nat.le_refl _) _)
 have M0:=hide (show u.heap[w.heap.size]?=some (.cells #[.int .u8 2,.int .i64 j1,.int .i64 j2,.int .i64 j3,.int .i64 j4] 26) by rw[←hu];exact heap_alloc_last _ _)
 have HU:=hide hu
 obtain⟨c0,cc1,cc2,c3,c4⟩:=zr5 M0.out
 have hl0:w.heap.size<u.heap.size:=by omega
 have HE1:=hide (e1.next HBu.out)
 have HE2:=hide (e2.next HBu.out)
 have HLs:=hide (And.intro h1 h2)
 have hml:=nearF_len v outs backs n1 n2 h1 h2
 have HC0:=hide c0
 clear hu e1 e2 h1 h2 cc1 cc2 c3 c4
 go_enter Tryz.func62,Tryz.ntmps62
 go_wp2_with fail
 rw[HU.out]
 refine (rnear_any _ v A1 A2 outs backs n1 c1 n2 c2 HLs.out.1 HLs.out.2 (by omega) (by omega) HE1.out HE2.out).mono ?_
 rintro e w2 ⟨Al,cl,rfl,hr,hlc,_,hb⟩
 rw[←near_eq] at hr hlc ⊢
 obtain⟨l,hl⟩:∃l,nearF v outs backs=l:=⟨_,rfl⟩
 rw[hl] at hr hml hlc ⊢
 have HLl:=hide hl
 obtain⟨L,hL⟩:∃L,l.length=L:=⟨_,rfl⟩
 rw[hL] at hml hlc ⊢
 have HR:=hide hr
 have HLL:=hide hL
 have HB2:=hide (HBu.out.trans (hb.mono (by omega)))
 have c0:=(hb.cell (p:=⟨w.heap.size,0,none⟩) hl0).trans HC0.out
 have hl2:w.heap.size<w2.heap.size:=by have:=hb.size;omega
 clear hr hb hl hL HE1 HE2
 go_wp2
 go_loopw [13,15] (fun v13 v18 wr=>∃(k:Nat) (Am:Option Addr) (cm:Nat),k≤L∧v18 = .int .i64 k∧v13 = .slice Am k cm∧Hid (wr.ownsRow w2.heap.size 125 2 (.slice Am k cm) k (msFlat ((l.map fun u=>(u,y)).take k)))∧Hid (Below w2.heap.size w2 wr)) (fun _ v18 _=>L-(intOf v18).toNat)
 case atStart=>exact⟨0,none,0,by omega,rfl,rfl,hide (World.ownsRow_nil _ _ _ _),hide (Below.refl _ _)⟩
 case round=>
  obtain⟨k,Am,cm,hk,rfl,rfl,HOw,HBw⟩:=hrel
  have hsz:w2.heap.size≤wr.heap.size:=HBw.out.size
  by_cases hlt:k<L
  ·obtain⟨x,hx⟩:∃x,l[k]?=some x:=⟨_,List.getElem?_eq_getElem (by rw[HLL.out];exact hlt)⟩
   obtain⟨b,off,hA,hbl,hc⟩:=HR.out.at_ (k:=k) (by rw[List.length_map,HLL.out];exact hlt)
   subst hA
   have d0:wr.cell? ⟨b,off+k,none⟩=some (.int .i64 x):=(HBw.out.cell (p:=⟨b,off+k,none⟩) hbl).trans (hc k _ (by rw[List.getElem?_map,hx];rfl))
   have HSN:Hid (msFlat ((l.map fun u=>(u,y)).take k) ++ [.int .i64 x,.int .i64 y]=msFlat ((l.map fun u=>(u,y)).take (k+1))):=hide (by
    rw[List.take_add_one,List.getElem?_map,hx,←msFlat_app];rfl)
   have hI0:(0:Int)≤(k:Int):=by omega
   have hI1:(k:Int)<(L:Int):=by omega
   have hlb:b<wr.heap.size:=by omega
   have hcap:=own_cap HOw.out
   clear hx hc c0
   go_wp2_with (at_builtin;refine wpList_app rfl (.tmp 33) (.tmp 40) 92 rfl w2.heap.size 125 i0 (.agg #[.int .i64 0,.int .i64 0]) 2 16 Tryz.underlying92 hi0 hz0 hz1 hz2 rfl (by decide) (.slice Am k cm) k _ rfl (HOw.out.alloc _) (wr.heap.size+1) (some ⟨wr.heap.size,0,none⟩) 1 1 [.int .i64 x,.int .i64 y] rfl rfl (Rd.new _ _ _ _) (by simp[Value.oneCell']) (by unfold maxLen;omega) (by omega) (by simp;omega) ?_)
   intro A' c' y3 own3 hg3 hat3
   rw[HSN.out] at own3
   have HO3:=hide own3
   have HB3:=hide (app_below (HBw.out.alloc hsz _) (HOw.out.alloc _) hg3 (by simp;omega) (Nat.le_refl _))
   clear own3 hg3 hat3 HOw HBw d0
   go_wp2
   go_roundw
   case rel=>exact⟨k+1,A',c',by omega,by go_num,rfl,HO3,HB3⟩
   case measure=>simp[intOf];omega
  obtain rfl:k=L:=by omega
  have HFin:Hid (RmPost w (lbMs true v y outs backs) (.returned (.slice Am k cm)) wr):=hide (by
   have hl:(l.map fun u=>(u,y)).length=k:=by rw[List.length_map];exact HLL.out
   have e9:lbMs true v y outs backs=l.map fun u=>(u,y):=by unfold lbMs;rw[if_pos rfl,HLl.out]
   have h:=HOw.out
   rw[List.take_of_length_le (by rw[hl];exact Nat.le_refl _)] at h
   rw[e9]
   refine⟨Am,cm,by rw[hl],Rd.of_own h,by rw[hl];exact own_cap h,?_,HB2.out.trans (HBw.out.mono HB2.out.size),own_new h HB2.out.size⟩
   rcases h.2 with ⟨hv,_⟩ | ⟨g,cap,cur,hv,_⟩
   ·intro _;injection hv
   ·injection hv with hv1;intro hn;rw[hn] at hv1;cases hv1)
  have c0:=(HBw.out.cell (p:=⟨w.heap.size,0,none⟩) hl2).trans c0
  clear HOw HR
  go_wp2
  go_loop [13,16] (fun v13 v16=>∃i:Nat,i≤n1∧v16 = .int .i64 i∧v13 = .slice Am k cm) (fun _ v16=>n1-(intOf v16).toNat)
  case atStart=>exact⟨0,by omega,rfl,rfl⟩
  case round=>
   obtain⟨i,hi,rfl,rfl⟩:=hrel
   by_cases hlt:i<n1
   ·have hI0:(0:Int)≤(i:Int):=by omega
    have hI1:(i:Int)<(n1:Int):=by omega
    go_wp2
    go_round
    case rel=>exact⟨i+1,by omega,by go_num,rfl⟩
    case measure=>simp[intOf];omega
   obtain rfl:i=n1:=by omega
   go_wp2
   go_ret
   exact HFin.out
end Go.Proofs.YtpgbjabifhjogaaGreat

/- Lemmas: Pck, Ptg, Ptp. -/
import Derived.Deep.DeepCutAuto
import Derived.ScopeJumps
import Derived.Test.YtgbahnlgblahpaaGreatMkWw3
import Derived.Test.YtgbahnlgblahpaaGreatMkWw4
set_option linter.unusedVariables false
set_option linter.unusedSimpArgs false
set_option maxRecDepth 100000
set_option maxHeartbeats 16000000
namespace Go.Proofs.YtgbahnlgblahpaaGreat
open Go.RowKit
def orOf (x y:Int):Int:=if x=0 then y else x
theorem or_any (w:World) (b:Nat) (x y:Int) (c0:w.cell? ⟨b,0,none⟩=some (.int .i64 x)) (c1:w.cell? ⟨b,1,none⟩=some (.int .i64 y)) :
  Calls Tryz.prog 65 #[.slice (some ⟨b,0,none⟩) 2 2] w fun e w'=>e = .returned (.int .i64 (orOf x y))∧w'=w:=by
 go_enter Tryz.func65,Tryz.ntmps65
 go_wp2
 go_loop [5,8] (fun v5 vi=>vi = .int .i64 0∨(vi = .int .i64 1∧x=0)∨(vi = .int .i64 2∧x=0∧y=0)) (fun _ vi=>2-(intOf vi).toNat)
 case atStart=>exact .inl rfl
 case round=>
  rcases hrel with rfl | ⟨rfl,hx⟩ | ⟨rfl,hx,hy⟩
  ·by_cases h:x=0
   ·subst h
    go_wp2
    go_round
    case rel=>first | exact .inr (.inl ⟨rfl,rfl⟩) | simp
    case measure=>simp[intOf]
   go_wp2
   go_ret
   exact⟨ret_i64 (by rw[orOf,if_neg h]),rfl⟩
  ·subst hx
   by_cases h:y=0
   ·subst h
    go_wp2
    go_round
    case rel=>first | exact .inr (.inr ⟨rfl,rfl,rfl⟩) | simp
    case measure=>simp[intOf]
   go_wp2
   go_ret
   exact⟨ret_i64 (by rw[orOf,if_pos rfl]),rfl⟩
  subst hx;subst hy
  go_wp2
  go_ret
  exact⟨ret_i64 (by rw[orOf,if_pos rfl]),rfl⟩
def orderOf (a b:Ed):Int:=orOf (cmpOf a.1 b.1) (cmpOf a.2.1 b.2.1)
theorem order_any (w:World) (a1 a2 a3 b1 b2 b3:Int) :
  Calls Tryz.prog 46 #[.agg #[.int .i64 a1,.int .i64 a2,.int .i64 a3],.agg #[.int .i64 b1,.int .i64 b2,.int .i64 b3]] w fun e w'=>e = .returned (.int .i64 (orderOf (a1,a2,a3) (b1,b2,b3)))∧Below w.heap.size w w':=by
 obtain⟨v,hv⟩:∃v,(w.alloc (.cells #[.int .i64 a1,.int .i64 a2,.int .i64 a3] 46)).alloc (.cells #[.int .i64 b1,.int .i64 b2,.int .i64 b3] 46)=v:=⟨_,rfl⟩
 have hz:v.heap.size=w.heap.size+2:=by rw[←hv];simp
 have hb:Below w.heap.size w v:=by rw[←hv];exact ((Below.refl _ _).alloc (Nat.le_refl _) _).alloc (by simp) _
 have ca:v.heap[w.heap.size]?=some (.cells #[.int .i64 a1,.int .i64 a2,.int .i64 a3] 46):=by
  rw[←hv];exact (Below.heap_alloc _ _ _ (by simp)).trans (heap_alloc_last w _)
 have cb:v.heap[w.heap.size+1]?=some (.cells #[.int .i64 b1,.int .i64 b2,.int .i64 b3] 46):=by
  rw[←hv]
  have h:=heap_alloc_last (w.alloc (.cells #[.int .i64 a1,.int .i64 a2,.int .i64 a3] 46)) (.cells #[.int .i64 b1,.int .i64 b2,.int .i64 b3] 46)
  rw[show (w.alloc (.cells #[.int .i64 a1,.int .i64 a2,.int .i64 a3] 46)).heap.size=w.heap.size+1 by simp] at h
  exact h
 obtain⟨ca0,ca1⟩:=zr2 ca
 obtain⟨cb0,cb1⟩:=zr2 cb
 have l0:w.heap.size<v.heap.size:=by omega
 have l1:w.heap.size+1<v.heap.size:=by omega
 have HV:=hide hv
 have HB:=hide hb
 have HZ:=hide hz
 clear hv hb hz ca cb
 go_enter Tryz.func46,Tryz.ntmps46
 go_wp2
 rw[HV.out]
 refine wp_region_held_drew (S:=Kept v) (by kernel_rfl) (Kept.drew v) (fun hS0=>?_)
 refine tka 0 5 ?_
 refine tka 1 6 ?_
 refine tka 2 7 ?_
 refine tka 3 8 ?_
 refine tka 5 10 ?_
 refine tka 6 11 ?_
 refine tka 7 12 ?_
 refine tka 8 13 ?_
 refine ck 4 9 fun K hK=>?_
 go_simp
 refine (compare_any _ a1 b1).mono ?_
 rintro e y1 ⟨rfl,rfl⟩
 go_wp2_with fail
 refine hK.out _ _ hS0 (fun hSn=>?_)
 clear hK K
 try simp only[zqd,zqe,zqf]
 refine ck 9 14 fun K hK=>?_
 go_simp
 refine (compare_any _ a2 b2).mono ?_
 rintro e y2 ⟨rfl,rfl⟩
 go_wp2_with fail
 refine hK.out _ _ hS0 (fun hSn=>?_)
 clear hK K
 try simp only[zqd,zqe,zqf]
 have hal:Below v.drew.heap.size v.drew (v.drew.alloc (.cells #[.int .i64 (cmpOf a1 b1),.int .i64 (cmpOf a2 b2)] 3)):=(Below.refl _ _).alloc (Nat.le_refl _) _
 have hS1:=hS0.below (by simp) hal
 have HAL:=hide hal
 clear hal
 refine ck 10 15 fun K hK=>?_
 go_simp
 refine hK.out _ _ hS1 (fun hSn=>?_)
 clear hK K
 try simp only[zqd,zqe,zqf]
 refine ck 11 16 fun K hK=>?_
 go_simp
 refine (or_any _ _ (cmpOf a1 b1) (cmpOf a2 b2) (by first | (rw[World.cell?_alloc_mark];rfl) | (have h:=World.cell?_alloc_mark;simp)) (by first | (rw[World.cell?_alloc_mark];rfl) | simp)).mono ?_
 rintro e y3 ⟨rfl,rfl⟩
 go_wp2_with fail
 refine hK.out _ _ hS1 (fun hSn=>?_)
 clear hK K
 try simp only[zqd,zqe,zqf]
 refine tka 12 4 ?_
 refine wpAnyH_done (by kernel_rfl) ?_ _
 go_wp2
 go_ret
 exact⟨rfl,HB.out.drew.trans (HAL.out.mono HB.out.drew.size)⟩
def fitsE (e:Ed) (V:Int):Bool:=fitsB e.1 e.2.1 e.2.2 V
def okAt (V:Int) (es:List Ed) (i:Nat):Bool:=match es[i]? with
 | none=>true
 | some e=>fitsE e V && (match (if i=0 then none else es[i-1]?) with | none=>true | some p=>decide (orderOf p e<0))
def okFrom (V:Int) (es:List Ed) (i:Nat):Bool:=(List.range (es.length-i)).all fun k=>okAt V es (i+k)
theorem okFrom_end (V:Int) (es:List Ed):okFrom V es es.length=true:=by simp[okFrom]
theorem okFrom_step (V:Int) (es:List Ed) (i:Nat) (h:i<es.length):okFrom V es i=(okAt V es i && okFrom V es (i+1)):=by
 unfold okFrom
 rw[show es.length-i=(es.length-(i+1))+1 by omega,List.range_succ_eq_map,List.all_cons,List.all_map]
 congr 2
 funext k
 simp only[Function.comp]
 rw[show i+Nat.succ k=i+1+k by omega]
def checkF (V:Int) (es:List Ed):Int:=if V > 512∨es.length > 8192 then 3 else if V<1 then 40 else if okFrom V es 0=true then 0 else 40
theorem check_any (w:World) (V:Int) (A:Option Addr) (es:List Ed) (L c:Nat) (hL:es.length=L) (hE:Eds w w.heap.size A es) (hc:L≤9223372036854775807) :
  Calls Tryz.prog 25 #[.agg #[.int .i64 V,.slice A L c]] w fun e w'=>e = .returned (.int .i64 (checkF V es))∧Below w.heap.size w w':=by
 obtain⟨v,hv⟩:∃v,w.alloc (.cells #[.int .i64 V,.slice A L c] 24)=v:=⟨_,rfl⟩
 have hz:v.heap.size=w.heap.size+1:=by rw[←hv];simp
 have hb:Below w.heap.size w v:=by rw[←hv];exact (Below.refl _ _).alloc (Nat.le_refl _) _
 have cg:v.heap[w.heap.size]?=some (.cells #[.int .i64 V,.slice A L c] 24):=by rw[←hv];exact heap_alloc_last w _
 obtain⟨cg0,cg1⟩:=zr2 cg
 have hlg:w.heap.size<v.heap.size:=by omega
 have HE:=hide (Els.more (hE.below hb (Nat.le_refl _)) (Nat.le_of_lt hlg))
 have HV:=hide hv
 have HB:=hide hb
 have HL:=hide hL
 have HZ:=hide hz
 clear hv hb hz cg hE hL
 by_cases h1:V > 512∨L > 8192
 ·have hF:checkF V es=3:=by rw[checkF,HL.out,if_pos h1]
  have HF:=hide hF
  clear hF
  by_cases hV:512<V
  ·go_enter Tryz.func25,Tryz.ntmps25
   go_wp2
   go_ret
   rw[HV.out,HF.out]
   exact⟨rfl,HB.out⟩
  have hV':¬512<V:=by omega
  have hL':(8192:Int)<(L:Int):=by omega
  go_enter Tryz.func25,Tryz.ntmps25
  go_wp2
  go_ret
  rw[HV.out,HF.out]
  exact⟨rfl,HB.out⟩
 have hV:¬512<V:=by omega
 have hL':¬(8192:Int)<(L:Int):=by omega
 by_cases h2:V<1
 ·have hF:checkF V es=40:=by rw[checkF,HL.out,if_neg h1,if_pos h2]
  have HF:=hide hF
  clear hF
  go_enter Tryz.func25,Tryz.ntmps25
  go_wp2
  go_ret
  rw[HV.out,HF.out]
  exact⟨rfl,HB.out⟩
 have hF:checkF V es=if okFrom V es 0=true then 0 else 40:=by rw[checkF,HL.out,if_neg h1,if_neg h2]
 have HF:=hide hF
 clear hF h1
 have hL2:L≤8192:=by omega
 go_enter Tryz.func25,Tryz.ntmps25
 go_wp2
 rw[HV.out]
 go_loopw [3,22] (fun v3 vi wr=>∃i:Nat,i≤L∧vi = .int .i64 i∧Hid (okFrom V es 0=okFrom V es i)∧Kept v wr∧Below w.heap.size w wr∧v.heap.size≤wr.heap.size) (fun _ vi _=>L-(intOf vi).toNat)
 case atStart=>exact⟨0,by omega,rfl,hide rfl,Kept.refl v,HB.out,Nat.le_refl _⟩
 case round=>
  obtain⟨i,hi,rfl,hok,hk,hbw,hsz⟩:=hrel
  have hs:=hbw.size
  by_cases hlt:i<L
  ·obtain⟨e,he⟩:∃e,es[i]?=some e:=⟨_,List.getElem?_eq_getElem (by rw[HL.out];exact hlt)⟩
   obtain⟨b,off,rfl,hbl,c0,c1,c2,_,_⟩:=Eds.get HE.out he
   have hI0:(0:Int)≤(i:Int):=by omega
   have hI1:(i:Int)<(L:Int):=by omega
   have HStep:=hide (okFrom_step V es i (by rw[HL.out];exact hlt))
   have HEi:=hide he
   clear he
   obtain⟨e1,e2,e3⟩:=e
   dsimp only at c0 c1 c2
   have hk2:=hk
   have HKv:=hide hk
   obtain⟨u,hu⟩:∃u,wr.alloc (.cells #[.int .i64 e1,.int .i64 e2,.int .i64 e3] 46)=u:=⟨_,rfl⟩
   have hzu:u.heap.size=wr.heap.size+1:=by rw[←hu];simp
   have hbu:Below wr.heap.size wr u:=by rw[←hu];exact (Below.refl _ _).alloc (Nat.le_refl _) _
   have hku:Kept v u:=hk2.below hsz hbu
   have ce:u.heap[wr.heap.size]?=some (.cells #[.int .i64 e1,.int .i64 e2,.int .i64 e3] 46):=by rw[←hu];exact heap_alloc_last wr _
   obtain⟨ue0,ue1,ue2⟩:=zr3 ce
   have ug0:=(hku ⟨w.heap.size,0,none⟩ hlg).trans cg0
   have ug1:=(hku ⟨w.heap.size,1,none⟩ hlg).trans cg1
   have m0:w.heap.size<u.heap.size:=by omega
   have m1:wr.heap.size<u.heap.size:=by omega
   have m2:b<u.heap.size:=by omega
   have HU:=hide hu
   have hwu:=hbw.trans (hbu.mono hs)
   have hsu:=hwu.size
   have hlast:∀w',Below u.drew.heap.size u.drew w'→Kept v w'∧Below w.heap.size w w'∧v.heap.size≤w'.heap.size:=fun w' h=>⟨(hku.below (by omega) ((Below.refl u.heap.size u).drew)).below (by simp;omega) h,hwu.drew.trans (h.mono hwu.drew.size),by have:=h.size;simp at this;omega⟩
   have HLAST:=hide hlast
   clear hk2 hku hu ce hbu hlast hwu hzu
   go_wp2
   rw[HU.out]
   clear hk
   by_cases hf:fitsB e1 e2 e3 V=true
   ·rcases Nat.eq_zero_or_pos i with hi0 | hi0
    ·subst hi0
     rw[show ((0:Nat):Int)=0 from rfl]
     refine wp_region_held_drew (S:=Kept u) (by kernel_rfl) (Kept.drew u) (fun hS0=>?_)
     refine tka 0 27 ?_
     refine tka 1 28 ?_
     refine tka 2 29 ?_
     refine ck 3 30 fun K hK=>?_
     go_simp
     refine (fits_any _ e1 e2 e3 V).mono ?_
     rintro e y1 ⟨rfl,hy1⟩
     rw[hf]
     have hS1:Kept u y1:=hS0.below (by simp) hy1
     have HY1:=hide hy1
     clear hy1
     go_wp2_with fail
     refine hK.out _ _ hS1 (fun hSn=>?_)
     clear hK K
     try simp only[zqd,zqe,zqf]
     refine tka 4 31 ?_
     refine tka 5 32 ?_
     refine tka 6 33 ?_
     refine tka 7 34 ?_
     refine tka 8 35 ?_
     refine ska 9 36 ?_
     refine ska 10 37 ?_
     refine ska 11 38 ?_
     refine ska 12 39 ?_
     refine ska 13 40 ?_
     refine ska 14 41 ?_
     refine ska 15 42 ?_
     refine ska 16 43 ?_
     refine ska 17 44 ?_
     refine tka 18 45 ?_
     refine tka 19 46 ?_
     refine wpAnyH_done (by kernel_rfl) ?_ _
     have hgo:=HLAST.out _ HY1.out
     have hst:=HStep.out
     have hat:okAt V es 0=true:=by
      rw[okAt,HEi.out]
      show (fitsB e1 e2 e3 V && true)=true
      rw[hf];rfl
     rw[hat,Bool.true_and] at hst
     clear hS0 hSn
     go_wp2
     go_roundw
     case rel=>exact⟨1,by omega,by go_num,hide (by rw[hst]),hgo⟩
     case measure=>simp[intOf];omega
    obtain⟨k,rfl⟩:∃k,i=k+1:=⟨i-1,by omega⟩
    have hpos:(0:Int)<((k+1:Nat):Int):=by omega
    have hsub:((k+1:Nat):Int)-1=(k:Int):=by omega
    have hk0:(0:Int)≤(k:Int):=by omega
    have hk1:(k:Int)<(L:Int):=by omega
    have hwk:IntKind.i64.wrap (k:Int)=(k:Int):=IntWalk.i64_in _ (by omega)
    obtain⟨pe,hpe⟩:∃pe,es[k]?=some pe:=⟨_,List.getElem?_eq_getElem (by have:=HL.out;omega)⟩
    obtain⟨p1,p2,p3⟩:=pe
    obtain⟨b',off',hA',_,q0,q1,q2,_,_⟩:=Eds.get HE.out hpe
    injection hA' with hA'
    injection hA' with hA1 hA2
    subst hA1 hA2
    dsimp only at q0 q1 q2
    have hkuv:=(HLAST.out _ (Below.refl _ _)).1
    have up0:u.cell? ⟨b,off+k*3,none⟩=some (.int .i64 p1):=(hkuv ⟨b,off+k*3,none⟩ hbl).trans q0
    have up1:u.cell? ⟨b,off+k*3+1,none⟩=some (.int .i64 p2):=(hkuv ⟨b,off+k*3+1,none⟩ hbl).trans q1
    have up2:u.cell? ⟨b,off+k*3+2,none⟩=some (.int .i64 p3):=(hkuv ⟨b,off+k*3+2,none⟩ hbl).trans q2
    have hat:okAt V es (k+1)=decide (orderOf (p1,p2,p3) (e1,e2,e3)<0):=by
     rw[okAt,HEi.out]
     show (fitsB e1 e2 e3 V && _)=_
     rw[hf,if_neg (by omega),Nat.add_sub_cancel,hpe];rfl
    have HAt:=hide hat
    have HPe:=hide hpe
    clear hkuv q0 q1 q2 hat hpe
    refine wp_region_held_drew (S:=Kept u) (by kernel_rfl) (Kept.drew u) (fun hS0=>?_)
    refine tka 0 27 ?_
    refine tka 1 28 ?_
    refine tka 2 29 ?_
    refine ck 3 30 fun K hK=>?_
    go_simp
    refine (fits_any _ e1 e2 e3 V).mono ?_
    rintro e y1 ⟨rfl,hy1⟩
    rw[hf]
    have hS1:Kept u y1:=hS0.below (by simp) hy1
    have HY1:=hide hy1
    clear hy1
    go_wp2_with fail
    refine hK.out _ _ hS1 (fun hSn=>?_)
    clear hK K
    try simp only[zqd,zqe,zqf]
    refine tka 4 31 ?_
    refine tka 5 32 ?_
    refine tka 6 33 ?_
    refine tka 7 34 ?_
    refine tka 8 35 ?_
    refine tka 9 36 ?_
    refine tka 10 37 ?_
    refine tka 11 38 ?_
    refine tka 12 39 ?_
    refine tka 13 40 ?_
    refine tka 14 41 ?_
    refine tka 15 42 ?_
    refine ck 16 43 fun K hK=>?_
    go_simp
    refine (order_any _ p1 p2 p3 e1 e2 e3).mono ?_
    rintro e y2 ⟨rfl,hy2⟩
    have hS2:Kept u y2:=hS1.below (by have:=HY1.out.size;simp at this;omega) hy2
    have HY2:=hide (HY1.out.trans (hy2.mono HY1.out.size))
    clear hy2
    go_wp2_with fail
    refine hK.out _ _ hS2 (fun hSn=>?_)
    clear hK K
    try simp only[zqd,zqe,zqf]
    refine tka 17 44 ?_
    refine tka 18 45 ?_
    refine tka 19 46 ?_
    refine wpAnyH_done (by kernel_rfl) ?_ _
    have hgo:=HLAST.out _ HY2.out
    have hst:=HStep.out
    rw[HAt.out] at hst
    clear hS0 hSn
    by_cases hord:orderOf (p1,p2,p3) (e1,e2,e3)<0
    ·have hord':¬0≤orderOf (p1,p2,p3) (e1,e2,e3):=by omega
     rw[decide_eq_true hord,Bool.true_and] at hst
     have HST:=hide hst
     clear hst
     go_wp2
     go_roundw
     case rel=>exact⟨k+1+1,by omega,by go_num,hide (by rw[hok.out,HST.out]),hgo⟩
     case measure=>simp[intOf];omega
    have hord':0≤orderOf (p1,p2,p3) (e1,e2,e3):=by omega
    rw[decide_eq_false hord,Bool.false_and] at hst
    have HST:=hide hst
    clear hst
    go_wp2
    go_ret
    rw[HF.out,hok.out,HST.out]
    exact⟨rfl,hgo.2.1⟩
   have hf':fitsB e1 e2 e3 V=false:=by simpa using hf
   refine wp_region_held_drew (S:=Kept u) (by kernel_rfl) (Kept.drew u) (fun hS0=>?_)
   refine tka 0 27 ?_
   refine tka 1 28 ?_
   refine tka 2 29 ?_
   refine ck 3 30 fun K hK=>?_
   go_simp
   refine (fits_any _ e1 e2 e3 V).mono ?_
   rintro e y1 ⟨rfl,hy1⟩
   rw[hf']
   have hS1:Kept u y1:=hS0.below (by simp) hy1
   have HY1:=hide hy1
   clear hy1
   go_wp2_with fail
   refine hK.out _ _ hS1 (fun hSn=>?_)
   clear hK K
   try simp only[zqd,zqe,zqf]
   refine tka 4 31 ?_
   refine tka 5 32 ?_
   refine ska 6 33 ?_
   refine ska 7 34 ?_
   refine ska 8 35 ?_
   refine ska 9 36 ?_
   refine ska 10 37 ?_
   refine ska 11 38 ?_
   refine ska 12 39 ?_
   refine ska 13 40 ?_
   refine ska 14 41 ?_
   refine ska 15 42 ?_
   refine ska 16 43 ?_
   refine ska 17 44 ?_
   refine ska 18 45 ?_
   refine tka 19 46 ?_
   refine wpAnyH_done (by kernel_rfl) ?_ _
   have hgo:=HLAST.out _ HY1.out
   have hst:=HStep.out
   have hat:okAt V es i=false:=by
    rw[okAt,HEi.out]
    show (fitsB e1 e2 e3 V && _)=false
    rw[hf'];rfl
   rw[hat,Bool.false_and] at hst
   have HST:=hide hst
   clear hst hS0 hSn
   go_wp2
   go_ret
   rw[HF.out,hok.out,HST.out]
   exact⟨rfl,hgo.2.1⟩
  obtain rfl:i=L:=by omega
  have ht:okFrom V es 0=true:=by rw[hok.out,←HL.out];exact okFrom_end _ _
  go_wp2
  go_ret
  rw[HF.out,if_pos ht]
  exact⟨rfl,hbw⟩
def at_ (vals:List Int) (i:Int):Int:=(vals[i.toNat]?).getD 0
def bat (r:List Bool) (i:Int):Bool:=(r[i.toNat]?).getD false
def scan (vals:List Int):List Ed→List Bool→Option (Option Nat)
 | [],_=>some none
 | e :: es,r=>if dadd (at_ vals e.1) e.2.2<at_ vals e.2.1 then none else if bat r e.1=true∧bat r e.2.1=false∧at_ vals e.2.1=dadd (at_ vals e.1) e.2.2 then some (some e.2.1.toNat) else scan vals es r
def close (vals:List Int) (es:List Ed):Nat→List Bool→Option (List Bool)
 | 0,r=>some r
 | n+1,r=>match scan vals es r with
  | none=>none
  | some none=>some r
  | some (some t)=>close vals es n (r.set t true)
def cnt (r:List Bool):Nat:=r.countP (fun b=>!b)
def lastOk (vals:List Int) (r:List Bool) (i:Nat):Bool:=(List.range (vals.length-i)).all fun k=>decide (0≤at_ vals ((i+k:Nat):Int)) && decide (at_ vals ((i+k:Nat):Int)≤4611686018427387904) && (!decide (at_ vals ((i+k:Nat):Int)<4611686018427387904) || bat r ((i+k:Nat):Int))
def tightF (V:Int) (es:List Ed) (s:Int) (vals:List Int):Bool:=
 if checkF V es=0∧0≤s∧s<V∧(vals.length:Int)=V∧at_ vals s=0 then
  match close vals es V.toNat ((List.replicate V.toNat false).set s.toNat true) with
  | none=>false
  | some r=>lastOk vals r 0
 else false
def isNo:Value→Bool | .bool b=>!b | _=>false
def cntIn (w:World) (g:Nat):Nat:=match w.heap[g]? with | some (.cells cs _ _)=>cs.toList.countP isNo | _=>0
def blockOf:Value→Nat | .slice (some a) _ _=>a.block | _=>0
theorem checkF_zero {V:Int} {es:List Ed} (h:checkF V es=0):1≤V∧V≤512∧okFrom V es 0=true:=by
 unfold checkF at h
 split at h
 ·cases h
 split at h
 ·cases h
 split at h
 ·exact⟨by omega,by omega,‹_›⟩
 cases h
theorem at_cell {w:World} {B b off:Nat} {vals:List Int} (h:Rd w B (some ⟨b,off,none⟩) (vals.map (Value.int .i64))) {k:Nat} (hk:k<vals.length):w.cell? ⟨b,off+k,none⟩=some (.int .i64 (at_ vals (k:Int))):=by
 have:=h.cell (j:=k) (u:=.int .i64 vals[k]) (by simp[hk])
 rw[this,at_]
 simp[hk]
theorem cntIn_row {w:World} {g:Nat} {r:List Bool} {t:TypeId} {fr:Nat×Nat} (h:w.heap[g]?=some (.cells (bools r).toArray t fr)):cntIn w g=cnt r:=by
 unfold cntIn cnt
 rw[h]
 show (bools r).countP isNo=_
 unfold bools
 rw[List.countP_map]
 rfl
theorem ok_all {V:Int} {es:List Ed} (h:okFrom V es 0=true) {i:Nat} {e:Ed} (he:es[i]?=some e):fitsE e V=true:=by
 unfold okFrom at h
 have hi:=(List.getElem?_eq_some_iff.1 he).1
 have:=List.all_eq_true.1 h i (by simpa using hi)
 rw[Nat.zero_add,okAt,he] at this
 dsimp only at this
 rw[Bool.and_eq_true] at this
 exact this.1
theorem fits_bounds {e:Ed} {V:Int} (h:fitsE e V=true):0≤e.1∧e.1<V∧0≤e.2.1∧e.2.1<V:=by
 unfold fitsE fitsB at h
 simp only[Bool.and_eq_true,decide_eq_true_eq] at h
 omega
theorem scan_step {vals:List Int} {es:List Ed} {r:List Bool} {i:Nat} {e:Ed} (he:es[i]?=some e):scan vals (es.drop i) r=if dadd (at_ vals e.1) e.2.2<at_ vals e.2.1 then none else if bat r e.1=true∧bat r e.2.1=false∧at_ vals e.2.1=dadd (at_ vals e.1) e.2.2 then some (some e.2.1.toNat) else scan vals (es.drop (i+1)) r:=by
 obtain⟨hi,rfl⟩:=List.getElem?_eq_some_iff.1 he
 rw[List.drop_eq_getElem_cons hi,scan]
theorem scan_end (vals:List Int) (es:List Ed) (r:List Bool):scan vals (es.drop es.length) r=some none:=by rw[List.drop_length];rfl
theorem cnt_set {r:List Bool} {t:Nat} (h:r[t]?=some false):cnt (r.set t true)+1=cnt r:=by
 obtain⟨hi,h⟩:=List.getElem?_eq_some_iff.1 h
 unfold cnt
 rw[List.countP_set hi,h]
 have:0<r.countP (fun b=>!b):=List.countP_pos_iff.2 ⟨r[t],List.getElem_mem hi,by rw[h];rfl⟩
 simp
 omega
theorem close_mark {vals:List Int} {es:List Ed} {r:List Bool} {t:Nat} (h:scan vals es r=some (some t)) (hr:r[t]?=some false):close vals es (cnt (r.set t true)+1) (r.set t true)=close vals es (cnt r+1) r:=by
 rw[cnt_set hr]
 rw[show close vals es (cnt r+1) r=(match scan vals es r with | none=>none | some none=>some r | some (some t)=>close vals es (cnt r) (r.set t true)) from rfl,h]
theorem close_none {vals:List Int} {es:List Ed} {r:List Bool} (n:Nat) (h:scan vals es r=none):close vals es (n+1) r=none:=by
 rw[close,h]
theorem close_done {vals:List Int} {es:List Ed} {r:List Bool} (n:Nat) (h:scan vals es r=some none):close vals es (n+1) r=some r:=by
 rw[close,h]
def lastAt (vals:List Int) (r:List Bool) (i:Nat):Bool:=decide (0≤at_ vals (i:Int)) && decide (at_ vals (i:Int)≤4611686018427387904) && (!decide (at_ vals (i:Int)<4611686018427387904) || bat r (i:Int))
theorem last_end (vals:List Int) (r:List Bool):lastOk vals r vals.length=true:=by simp[lastOk]
theorem last_step (vals:List Int) (r:List Bool) (i:Nat) (h:i<vals.length):lastOk vals r i=(lastAt vals r i && lastOk vals r (i+1)):=by
 unfold lastOk
 rw[show vals.length-i=(vals.length-(i+1))+1 by omega,List.range_succ_eq_map,List.all_cons,List.all_map]
 congr 2
 funext k
 simp only[Function.comp]
 rw[show i+Nat.succ k=i+1+k by omega]
theorem bat_get {r:List Bool} {k:Nat} (h:k<r.length):r[k]?=some (bat r (k:Int)):=by
 rw[bat,Int.toNat_natCast,List.getElem?_eq_getElem h];rfl
theorem row_bat {w:World} {G:Nat} {r:List Bool} {t:TypeId} {fr:Nat×Nat} (h:w.heap[G]?=some (.cells (bools r).toArray t fr)) {k:Nat} (hk:k<r.length):w.cell? ⟨G,k,none⟩=some (.bool (bat r (k:Int))):=by
 rw[cell_of_row _ _ _ _ _ _ h,List.getElem?_toArray]
 rw[bools_get hk,bat,Int.toNat_natCast,List.getElem?_eq_getElem hk];rfl
theorem made_cells {w:World} {base g N:Nat} {xs:List Value} {t:TypeId} (h:w.ownsRow base t 1 (.slice (some ⟨g,0,none⟩) N N) N xs):w.heap[g]?=some (.cells xs.toArray t):=by
 rcases h.2 with ⟨e,_⟩ | ⟨g',cap,cur,e,_,hg,_,_,hs,ht⟩
 ·cases e
 injection e with e1 e2 e3
 injection e1 with e1
 injection e1 with e1
 subst e1 e3
 rw[hg,←ht,List.take_of_length_le (by simp[hs])]
theorem made_no (N:Nat):(madeCells (Value.bool false).cells (N*1)).toList=bools (List.replicate N false):=by
 rw[Nat.mul_one,show (Value.bool false).cells=#[Value.bool false] from rfl,toList_madeCells_one]
 simp[bools]
def JF (M q L c b2 off2 c2:Nat) (A:Option Addr) (w:World) (G:Nat) (u:Nat→Value):Act:={ tmps:=#[.agg #[.int .i64 (M:Int),.slice A L c],.int .i64 (q:Int),.slice (some ⟨b2,off2,none⟩) M c2,.pointer (some ⟨w.heap.size,0,none⟩),undef,undef,u 6,.slice (some ⟨G,0,none⟩) M M,undef,u 9,u 10,undef,undef,.agg #[.int .i64 (M:Int),.slice A L c],.int .i64 0,.bool false,.bool false,.int .i64 (q:Int),.bool false,.bool false,.bool false,.int .i64 (q:Int),.pointer (some ⟨w.heap.size,0,none⟩),.int .i64 (M:Int),.bool false,.bool false,.bool false,.slice (some ⟨b2,off2,none⟩) M c2,.int .i64 (M:Int),.pointer (some ⟨w.heap.size,0,none⟩),.int .i64 (M:Int),.bool false,.bool false,.bool false,.slice (some ⟨b2,off2,none⟩) M c2,.int .i64 (q:Int),.pointer (some ⟨b2,off2+q,none⟩),.int .i64 0,.bool false,.bool false,.pointer (some ⟨w.heap.size,0,none⟩),.int .i64 (M:Int),.slice (some ⟨G,0,none⟩) M M,.slice (some ⟨G,0,none⟩) M M,.int .i64 (q:Int),.pointer (some ⟨G,q,none⟩),.pointer (some ⟨w.heap.size,1,none⟩),.slice A L c,.int .i64 (L:Int),u 49,u 50,u 51,u 52,u 53,u 54,u 55,u 56,u 57,u 58,u 59,u 60,u 61,u 62,u 63,u 64,u 65,u 66,u 67,u 68,u 69,u 70,u 71,u 72,u 73,u 74,u 75,u 76,u 77,u 78,u 79,u 80,u 81,u 82,u 83,u 84,u 85,u 86,u 87,u 88,u 89,u 90,u 91,u 92,u 93,undef,undef,undef,undef,undef,undef,undef,undef,undef,undef,undef,undef,undef,undef,undef,undef,undef,undef,undef,undef,undef,undef,undef,undef,undef],defers:=[] }
def JP (M q L c b2 off2 c2:Nat) (A:Option Addr) (w v:World) (vals:List Int) (es:List Ed) (r0:List Bool) (a':Act) (w':World):Prop:=
 ∃(G:Nat) (r:List Bool) (u:Nat→Value),a'=JF M q L c b2 off2 c2 A w G u∧r.length=M∧v.heap.size≤G∧Hid (close vals es (cnt r+1) r=close vals es M r0)∧w'.heap[G]?=some (.cells (bools r).toArray 4)∧Hid (Kept v w')∧Hid (Below w.heap.size w w')
theorem JP.mk {M q L c b2 off2 c2:Nat} {A:Option Addr} {w v:World} {vals:List Int} {es:List Ed} {r0:List Bool} {a':Act} {w':World} (G:Nat) (r:List Bool) (h:a'=JF M q L c b2 off2 c2 A w G (fun k=>a'.tmps.getD k undef)) (h1:r.length=M) (h2:v.heap.size≤G) (h3:Hid (close vals es (cnt r+1) r=close vals es M r0)) (h4:w'.heap[G]?=some (.cells (bools r).toArray 4)) (h5:Hid (Kept v w')) (h6:Hid (Below w.heap.size w w')):JP M q L c b2 off2 c2 A w v vals es r0 a' w':=
 ⟨G,r,_,h,h1,h2,h3,h4,h5,h6⟩
theorem tight_any (w:World) (V:Int) (A A2:Option Addr) (es:List Ed) (vals:List Int) (L c M c2:Nat) (s:Int) (hL:es.length=L) (hE:Eds w w.heap.size A es) (hc:L≤9223372036854775807) (hM:vals.length=M) (hR:Rd w w.heap.size A2 (vals.map (Value.int .i64))) (hvb:∀x∈vals,-9223372036854775808≤x∧x≤9223372036854775807) :
  Calls Tryz.prog 19 #[.agg #[.int .i64 V,.slice A L c],.int .i64 s,.slice A2 M c2] w fun e w'=>e = .returned (.bool (tightF V es s vals))∧Below w.heap.size w w':=by
 obtain⟨v,hv⟩:∃v,w.alloc (.cells #[.int .i64 V,.slice A L c] 24)=v:=⟨_,rfl⟩
 have hz:v.heap.size=w.heap.size+1:=by rw[←hv];simp
 have hb:Below w.heap.size w v:=by rw[←hv];exact (Below.refl _ _).alloc (Nat.le_refl _) _
 have cg:v.heap[w.heap.size]?=some (.cells #[.int .i64 V,.slice A L c] 24):=by rw[←hv];exact heap_alloc_last w _
 have hlg:w.heap.size<v.heap.size:=by omega
 have HE:=hide (hE.below hb (Nat.le_refl _))
 have HR:=hide (hR.below hb)
 have HV:=hide hv
 have HB:=hide hb
 have HL:=hide hL
 have HM:=hide hM
 have HZ:=hide hz
 have HCG:=hide cg
 have HVB:=hide hvb
 clear hv hb hz cg hE hL hR hM hvb
 by_cases hgood:checkF V es=0∧0≤s∧s<V∧(vals.length:Int)=V∧at_ vals s=0
 ·have HT:Hid (tightF V es s vals=match close vals es V.toNat ((List.replicate V.toNat false).set s.toNat true) with | none=>false | some r=>lastOk vals r 0):=hide (by rw[tightF,if_pos hgood])
  obtain⟨hchk,hs0,hsV,hlen,hat⟩:=hgood
  obtain⟨hV1,hV2,hok⟩:=checkF_zero hchk
  obtain⟨N,rfl⟩:=Int.eq_ofNat_of_zero_le (show 0≤V by omega)
  obtain⟨q,rfl⟩:=Int.eq_ofNat_of_zero_le hs0
  rw[HM.out] at hlen
  obtain rfl:M=N:=by omega
  rw[Int.toNat_natCast,Int.toNat_natCast] at HT
  obtain⟨b2,off2,rfl,hb2,_⟩:=HR.out.at_ (k:=q) (by rw[List.length_map,HM.out];omega)
  have cs0:=at_cell HR.out (k:=q) (by rw[HM.out];omega)
  rw[hat] at cs0
  have HChk:=hide hchk
  have HOk:=hide hok
  obtain⟨r0,hr0⟩:∃r0,(List.replicate M false).set q true=r0:=⟨_,rfl⟩
  have HR0:=hide hr0
  rw[hr0] at HT
  clear hat hchk hok hr0 hlen
  obtain⟨i0,hi0,hz0,hz1,hz2⟩:=info_parts (show (Tryz.prog.info? 4).map (fun i=>(i.zero,i.size,i.bytes))=some (some (.bool false),1,1) by kernel_rfl)
  have hb8:i0.bytes*M≤281474976710656:=by rw[hz2];omega
  have hI0:(0:Int)≤(q:Int):=by omega
  have hI1:(q:Int)<(M:Int):=by omega
  have dq1:decide ((q:Int)<0)=false:=decide_eq_false (by omega)
  have dq2:decide (M≤q)=false:=decide_eq_false (by omega)
  have hrow0:Hid ((bools (List.replicate M false)).toArray[q]?=some (.bool false)):=hide (by rw[List.getElem?_toArray,bools_get (by rw[List.length_replicate];omega)];simp)
  obtain⟨cg0,cg1⟩:=zr2 HCG.out
  go_enter Tryz.func19,Tryz.ntmps19
  go_wp2
  rw[HV.out]
  refine wp_scope_jumps 0 (JP M q L c b2 off2 c2 A w v vals es r0) (fun a' w'=>cntIn w' (blockOf (a'.tmps.getD 7 undef))) rfl ?_ ?_
  ·go_wp2_with fail
   refine (check_any _ _ A es L c HL.out (HE.out.more (Nat.le_of_lt hlg)) hc).mono ?_
   rintro e w1 ⟨rfl,hb1⟩
   rw[HChk.out]
   have g0:=(hb1.cell (p:=⟨w.heap.size,0,none⟩) hlg).trans cg0
   have g1:=(hb1.cell (p:=⟨w.heap.size,1,none⟩) hlg).trans cg1
   have g2:=(hb1.cell (p:=⟨b2,off2+q,none⟩) (by show b2<_;omega)).trans cs0
   have HB1:=hide hb1
   have hs1:=hb1.size
   clear hb1 cs0 cg0 cg1
   go_wp2_with (at_make;refine wpList_make_full _ rfl (.tmp 41) (.tmp 41) 32 rfl w1.heap.size 4 i0 (.bool false) 1 Tryz.underlying32 hi0 hz0 hz1 .i64 .i64 _ _ M rfl rfl ?_ ?_ hb8 (by unfold maxLen;omega) (Nat.le_refl _) ?_;rfl;rfl;intro w2 hown2 hg2;have hb2w:Below w1.heap.size w1 w2:=(Below.refl _ w1).grown hg2 (Nat.le_refl _) (fun k e=>by cases e);have hm0:=made_cells hown2;rw[made_no] at hm0;have hc0:=cell_of_row _ _ q _ _ _ hm0;have hf0:=frozen_of_row _ _ q _ _ hm0;have HM0:=hide hm0;have HBW:=hide hb2w;rw[hrow0.out] at hc0;clear hown2 hg2 hm0 hb2w)
   have hrow:=heap_setCell_same _ _ q _ _ (.bool true) HM0.out
   rw[List.setIfInBounds_toArray,bools_set,HR0.out] at hrow
   have hbq:Hid (Below w.heap.size w (w2.setCell ⟨w1.heap.size,q,none⟩ (.bool true))):=hide (((HB.out.trans (HB1.out.mono (by omega))).trans (HBW.out.mono (by omega))).setCell (p:=⟨w1.heap.size,q,none⟩) (by show _≤w1.heap.size;omega) _)
   have hkq:Hid (Kept v (w2.setCell ⟨w1.heap.size,q,none⟩ (.bool true))):=hide (fun p hp=>(World.cell?_setCell_far w2 ⟨w1.heap.size,q,none⟩ p _ (by first | (show p.block≠w1.heap.size;omega) | (show w1.heap.size≠p.block;omega))).trans ((HBW.out.cell (by omega)).trans (HB1.out.cell hp)))
   obtain⟨wq,hwq⟩:∃wq,w2.setCell ⟨w1.heap.size,q,none⟩ (.bool true)=wq:=⟨_,rfl⟩
   rw[hwq] at hrow hbq hkq ⊢
   obtain⟨G,hGe⟩:∃G,w1.heap.size=G:=⟨_,rfl⟩
   rw[hGe] at hrow ⊢
   have hG:v.heap.size≤G:=by omega
   have hrl:r0.length=M:=by rw[←HR0.out,List.length_set,List.length_replicate]
   have hcn:cnt r0+1=M:=by
    rw[←HR0.out,cnt_set (by rw[List.getElem?_replicate,if_pos (by omega)])]
    unfold cnt
    rw[List.countP_replicate]
    simp
   obtain⟨r,hrr⟩:∃r,r0=r:=⟨_,rfl⟩
   have hcl:Hid (close vals es (cnt r+1) r=close vals es M r0):=hide (by rw[←hrr,hcn])
   rw[hrr] at hrl hrow
   clear hwq hGe hrr hcn HM0 HBW HB1 g0 g1 g2 hs1 hc0 hf0
   go_step3
   have HRow:=hide hrow
   have HRow0:=hide hrow
   have hsq:=hbq.out.size
   have hlq:=lt_of_block hrow
   clear hrow
   have gq0:wq.cell? ⟨w.heap.size,0,none⟩=some (.int .i64 (M:Int)):=(hkq.out ⟨w.heap.size,0,none⟩ hlg).trans (cell_of_row _ _ 0 _ _ _ HCG.out)
   have gq1:wq.cell? ⟨w.heap.size,1,none⟩=some (.slice A L c):=(hkq.out ⟨w.heap.size,1,none⟩ hlg).trans (cell_of_row _ _ 1 _ _ _ HCG.out)
   go_wp2
   go_loopw [49] (fun vi wr=>∃i:Nat,i≤L∧vi = .int .i64 i∧Hid (scan vals es r=scan vals (es.drop i) r)∧Hid (wr.heap[G]?=some (.cells (bools r).toArray 4))∧Hid (Kept v wr)∧Below w.heap.size w wr∧Below (w.heap.size+1) wq wr) (fun vi _=>L-(intOf vi).toNat)
   case atStart=>exact⟨0,by omega,rfl,hide rfl,HRow,hkq,hbq.out,Below.refl _ _⟩
   case round=>
    obtain⟨i,hi,rfl,hsc,hrw,hkr,hbr,hbqr⟩:=hrel
    clear HRow
    have hsr:=hbr.size
    by_cases hlt:i<L
    ·obtain⟨e,he⟩:∃e,es[i]?=some e:=⟨_,List.getElem?_eq_getElem (by rw[HL.out];exact hlt)⟩
     have hfit:=fits_bounds (ok_all HOk.out he)
     obtain⟨b,off,rfl,hbl,c0,c1,c2',hx1,hx2⟩:=Eds.get HE.out he
     have HStep:=hide (scan_step (vals:=vals) (r:=r) he)
     obtain⟨e1,e2,e3⟩:=e
     dsimp only at c0 c1 c2' hfit hx1 hx2 HStep
     obtain⟨f,rfl⟩:=Int.eq_ofNat_of_zero_le hfit.1
     obtain⟨t,rfl⟩:=Int.eq_ofNat_of_zero_le hfit.2.2.1
     have hfM:f<M:=by omega
     have htM:t<M:=by omega
     have k0:=(hkr.out ⟨b,off+i*3,none⟩ (by show b<_;omega)).trans c0
     have k1:=(hkr.out ⟨b,off+i*3+1,none⟩ (by show b<_;omega)).trans c1
     have k2:=(hkr.out ⟨b,off+i*3+2,none⟩ (by show b<_;omega)).trans c2'
     have hI0:(0:Int)≤(i:Int):=by omega
     have hI1:(i:Int)<(L:Int):=by omega
     clear he c0 c1 c2' hfit
     go_wp2
     obtain⟨u,hu⟩:∃u,wr.alloc (.cells #[.int .i64 (f:Int),.int .i64 (t:Int),.int .i64 e3] 46)=u:=⟨_,rfl⟩
     have hbu:Below wr.heap.size wr u:=by rw[←hu];exact (Below.refl _ _).alloc (Nat.le_refl _) _
     have ce:u.heap[wr.heap.size]?=some (.cells #[.int .i64 (f:Int),.int .i64 (t:Int),.int .i64 e3] 46):=by rw[←hu];exact heap_alloc_last wr _
     obtain⟨ue0,ue1,ue2⟩:=zr3 ce
     have hlu:wr.heap.size<u.heap.size:=lt_of_block ce
     have hvr:v.heap.size≤wr.heap.size:=by have h1:=lt_of_block hrw.out;omega
     have hku:Hid (Kept v u):=hide (hkr.out.below hvr hbu)
     have hrwu:=(hbu.block G (lt_of_block hrw.out)).trans hrw.out
     have uf:=((hku.out ⟨b2,off2+f,none⟩ (by show b2<_;omega)).trans (at_cell HR.out (by rw[HM.out];exact hfM)))
     have ut:=((hku.out ⟨b2,off2+t,none⟩ (by show b2<_;omega)).trans (at_cell HR.out (by rw[HM.out];exact htM)))
     have urf:=row_bat hrwu (k:=f) (by omega)
     have urt:=row_bat hrwu (k:=t) (by omega)
     have uff:=frozen_of_row _ _ t _ _ hrwu
     have hbF:=HVB.out (at_ vals f) (by unfold at_;rw[Int.toNat_natCast,List.getElem?_eq_getElem (by rw[HM.out];exact hfM)];exact List.getElem_mem _)
     have hlb2:b2<u.heap.size:=by omega
     have hlG:G<u.heap.size:=lt_of_block hrwu
     have hwu:=hbr.trans (hbu.mono hsr)
     have hwqu:=hbqr.trans (hbu.mono (by omega))
     have HU:=hide hu
     have HRU:=hide hrwu
     have hf0:(0:Int)≤(f:Int):=by omega
     have hf1:(f:Int)<(M:Int):=by omega
     have ht0:(0:Int)≤(t:Int):=by omega
     have ht1:(t:Int)<(M:Int):=by omega
     obtain⟨F,hF⟩:∃F,at_ vals (f:Int)=F:=⟨_,rfl⟩
     obtain⟨X,hX⟩:∃X,at_ vals (t:Int)=X:=⟨_,rfl⟩
     obtain⟨RF,hRF⟩:∃RF,bat r (f:Int)=RF:=⟨_,rfl⟩
     obtain⟨RT,hRT⟩:∃RT,bat r (t:Int)=RT:=⟨_,rfl⟩
     rw[hF] at uf hbF HStep
     rw[hX] at ut HStep
     rw[hRF] at urf HStep
     rw[hRT] at urt HStep
     have HRT:=hide hRT
     clear hu ce hbu hrw hkr hbr hbqr hF hX hRF hRT hrwu k0 k1 k2
     go_wp2
     rw[HU.out]
     refine wp_region_held_drew (S:=Kept u) (by kernel_rfl) (Kept.drew u) (fun hS0=>?_)
     refine tka 0 53 ?_
     refine tka 1 54 ?_
     refine tka 2 55 ?_
     refine tka 3 56 ?_
     refine tka 4 57 ?_
     refine tka 5 58 ?_
     refine ck 6 59 fun K hK=>?_
     go_simp
     refine (give_any _ F (f:Int) (t:Int) e3 hbF.1 hbF.2 hx1 hx2).mono ?_
     rintro e y1 ⟨rfl,hy1⟩
     have hS1:Kept u y1:=hS0.below (by simp) hy1
     have HY1:=hide hy1
     clear hy1
     go_wp2_with fail
     refine hK.out _ _ hS1 (fun hSn=>?_)
     clear hK K
     try simp only[zqd,zqe,zqf]
     refine tka 7 10 ?_
     refine wpAnyH_done (by kernel_rfl) ?_ _
     clear hS0 hSn
     obtain⟨d,hd⟩:∃d,dadd F e3=d:=⟨_,rfl⟩
     rw[hd] at HStep ⊢
     have y0:=(hS1 ⟨wr.heap.size,0,none⟩ hlu).trans ue0
     have ye1:=(hS1 ⟨wr.heap.size,1,none⟩ hlu).trans ue1
     have yt:=(hS1 ⟨b2,off2+t,none⟩ hlb2).trans ut
     have yrf:=(hS1 ⟨G,f,none⟩ hlG).trans urf
     have yrt:=(hS1 ⟨G,t,none⟩ hlG).trans urt
     have hYb:Below u.heap.size u y1:=(Below.refl u.heap.size u).drew.trans HY1.out
     have yrow:=hide ((hYb.block G hlG).trans HRU.out)
     have yfz:=frozen_of_row _ _ t _ _ yrow.out
     have hkY:Hid (Kept v y1):=hide (hku.out.below (by omega) hYb)
     have hwY:=hwu.trans (hYb.mono hwu.size)
     have hwqY:=hwqu.trans (hYb.mono (by omega))
     clear hS1 HY1 hYb ue0 ue1 ue2 uf ut urf urt uff hku hwu hwqu hd HRU HU
     by_cases hgt:d<X
     ·have hn:scan vals es r=none:=by rw[hsc.out,HStep.out,if_pos hgt]
      have htf:tightF (M:Int) es (q:Int) vals=false:=by rw[HT.out,←hcl.out,close_none _ hn]
      have HTF:=hide htf
      clear hn htf
      go_wp2
      simp only[Exit.jump]
      go_ret
      exact⟨ret_bool (by rw[HTF.out]),hwY⟩
     rw[if_neg hgt] at HStep
     by_cases hmk:RF=true∧RT=false∧X=d
     ·obtain⟨rfl,rfl,rfl⟩:=hmk
      have hn:scan vals es r=some (some t):=by rw[hsc.out,HStep.out,if_pos ⟨rfl,rfl,rfl⟩,Int.toNat_natCast]
      have hrt:r[t]?=some false:=by rw[bat_get (by omega),HRT.out]
      have hnew:=heap_setCell_same _ _ t _ _ (.bool true) yrow.out
      rw[List.setIfInBounds_toArray,bools_set] at hnew
      have HNew:=hide hnew
      have HCl:=hide ((close_mark hn hrt).trans hcl.out)
      have HCnt:=hide (cnt_set hrt)
      have HKs:Hid (Kept v (y1.setCell ⟨G,t,none⟩ (.bool true))):=hide (fun p hp=>(World.cell?_setCell_far y1 ⟨G,t,none⟩ p _ (by first | (show p.block≠G;omega) | (show G≠p.block;omega))).trans (hkY.out p hp))
      have HBs:=hide (hwY.setCell (p:=⟨G,t,none⟩) (by show _≤G;omega) (.bool true))
      clear hn hrt hnew hwY hwqY hkY
      go_wp2
      go_step3
      exact⟨rfl,JP.mk G (r.set t true) rfl (by rw[List.length_set];exact hrl) hG HCl HNew.out HKs HBs⟩
     rw[if_neg hmk] at HStep
     have HSc:=hide (hsc.out.trans HStep.out)
     have hmk':(RF && !RT && decide (X=d))=false:=by
      rw[Bool.eq_false_iff];intro h;simp only[Bool.and_eq_true,Bool.not_eq_true',decide_eq_true_eq] at h;exact hmk ⟨h.1.1,h.1.2,h.2⟩
     cases RF
     ·go_wp2
      go_roundw
      case rel=>exact⟨i+1,by omega,by go_num,HSc,yrow,hkY,hwY,hwqY⟩
      case measure=>simp[intOf];omega
     cases RT
     ·have hne:¬X=d:=fun h=>hmk ⟨rfl,rfl,h⟩
      go_wp2
      go_roundw
      case rel=>exact⟨i+1,by omega,by go_num,HSc,yrow,hkY,hwY,hwqY⟩
      case measure=>simp[intOf];omega
     go_wp2
     go_roundw
     case rel=>exact⟨i+1,by omega,by go_num,HSc,yrow,hkY,hwY,hwqY⟩
     case measure=>simp[intOf];omega
    obtain rfl:i=L:=by omega
    have hend:scan vals es r=some none:=hsc.out.trans (by rw[←HL.out];exact scan_end _ _ _)
    have htf:tightF (M:Int) es (q:Int) vals=lastOk vals r 0:=by rw[HT.out,←hcl.out,close_done _ hend]
    have HTF:=hide htf
    have HRW:=hide hrw.out
    have HBR:=hide hbr
    clear hend htf hrw gq0 gq1
    go_wp2
    obtain⟨wo,hwo⟩:∃wo,wr=wo:=⟨_,rfl⟩
    subst hwo
    go_loop [96] (fun vi=>∃j:Nat,j≤M∧vi = .int .i64 j∧Hid (lastOk vals r 0=lastOk vals r j)) (fun vi=>M-(intOf vi).toNat)
    case atStart=>exact⟨0,by omega,rfl,hide rfl⟩
    case round=>
     obtain⟨j,hj,rfl,hla⟩:=hrel
     by_cases hjM:j<M
     ·have zc:=((hkr.out ⟨b2,off2+j,none⟩ (by show b2<_;omega)).trans (at_cell HR.out (by rw[HM.out];exact hjM)))
      have zr:=row_bat HRW.out (k:=j) (by omega)
      have HS:=hide (last_step vals r j (by rw[HM.out];exact hjM))
      have HA:Hid (lastAt vals r j=(decide (0≤at_ vals (j:Int)) && decide (at_ vals (j:Int)≤4611686018427387904) && (!decide (at_ vals (j:Int)<4611686018427387904) || bat r (j:Int)))):=hide rfl
      obtain⟨x,hx⟩:∃x,at_ vals (j:Int)=x:=⟨_,rfl⟩
      obtain⟨rb,hrb⟩:∃rb,bat r (j:Int)=rb:=⟨_,rfl⟩
      rw[hx] at zc HA
      rw[hrb] at zr HA
      have hj0:(0:Int)≤(j:Int):=by omega
      have hj1:(j:Int)<(M:Int):=by omega
      clear hx hrb
      have hfin:lastAt vals r j=false→tightF (M:Int) es (q:Int) vals=false:=fun h=>by rw[HTF.out,hla.out,HS.out,h];rfl
      have hgo:lastAt vals r j=true→lastOk vals r 0=lastOk vals r (j+1):=fun h=>by rw[hla.out,HS.out,h];rfl
      have HFin:=hide hfin
      have HGo:=hide hgo
      clear hfin hgo
      by_cases h1:x<0
      ·have HF:=hide (HFin.out (by rw[HA.out,decide_eq_false (by omega)];rfl))
       go_wp2
       simp only[Exit.jump]
       go_ret
       exact⟨ret_bool (by rw[HF.out]),HBR.out⟩
      by_cases h2:4611686018427387904<x
      ·have HF:=hide (HFin.out (by rw[HA.out,decide_eq_true (show 0≤x by omega),decide_eq_false (show ¬x≤4611686018427387904 by omega)];rfl))
       go_wp2
       simp only[Exit.jump]
       go_ret
       exact⟨ret_bool (by rw[HF.out]),HBR.out⟩
      by_cases h3:x<4611686018427387904
      ·cases rb
       ·have HF:=hide (HFin.out (by rw[HA.out,decide_eq_true (show 0≤x by omega),decide_eq_true (show x≤4611686018427387904 by omega),decide_eq_true h3];rfl))
        go_wp2
        simp only[Exit.jump]
        go_ret
        exact⟨ret_bool (by rw[HF.out]),HBR.out⟩
       have HG:=hide (HGo.out (by rw[HA.out,decide_eq_true (show 0≤x by omega),decide_eq_true (show x≤4611686018427387904 by omega),decide_eq_true h3];rfl))
       go_wp2
       go_round
       case rel=>exact⟨j+1,by omega,by go_num,HG⟩
       case measure=>simp[intOf];omega
      have HG:=hide (HGo.out (by rw[HA.out,decide_eq_true (show 0≤x by omega),decide_eq_true (show x≤4611686018427387904 by omega),decide_eq_false h3];rfl))
      go_wp2
      go_round
      case rel=>exact⟨j+1,by omega,by go_num,HG⟩
      case measure=>simp[intOf];omega
     obtain rfl:M=j:=by omega
     have HF:Hid (tightF (M:Int) es (q:Int) vals=true):=hide (by rw[HTF.out,hla.out,←HM.out];exact last_end _ _)
     go_wp2
     simp only[Exit.jump]
     go_ret
     exact⟨ret_bool (by rw[HF.out]),HBR.out⟩
  rintro a' wq ⟨G,r,u,rfl,hrl,hG,hcl,hrow,hkq,hbq⟩
  unfold JF
  dsimp only
  have HRow:=hide hrow
  have HRow0:=hide hrow
  have hsq:=hbq.out.size
  have hlq:=lt_of_block hrow
  clear hrow
  have gq0:wq.cell? ⟨w.heap.size,0,none⟩=some (.int .i64 (M:Int)):=(hkq.out ⟨w.heap.size,0,none⟩ hlg).trans (cell_of_row _ _ 0 _ _ _ HCG.out)
  have gq1:wq.cell? ⟨w.heap.size,1,none⟩=some (.slice A L c):=(hkq.out ⟨w.heap.size,1,none⟩ hlg).trans (cell_of_row _ _ 1 _ _ _ HCG.out)
  go_wp2
  go_loopw [49] (fun vi wr=>∃i:Nat,i≤L∧vi = .int .i64 i∧Hid (scan vals es r=scan vals (es.drop i) r)∧Hid (wr.heap[G]?=some (.cells (bools r).toArray 4))∧Hid (Kept v wr)∧Below w.heap.size w wr∧Below (w.heap.size+1) wq wr) (fun vi _=>L-(intOf vi).toNat)
  case atStart=>exact⟨0,by omega,rfl,hide rfl,HRow,hkq,hbq.out,Below.refl _ _⟩
  case round=>
   obtain⟨i,hi,rfl,hsc,hrw,hkr,hbr,hbqr⟩:=hrel
   clear HRow
   have hsr:=hbr.size
   by_cases hlt:i<L
   ·obtain⟨e,he⟩:∃e,es[i]?=some e:=⟨_,List.getElem?_eq_getElem (by rw[HL.out];exact hlt)⟩
    have hfit:=fits_bounds (ok_all HOk.out he)
    obtain⟨b,off,rfl,hbl,c0,c1,c2',hx1,hx2⟩:=Eds.get HE.out he
    have HStep:=hide (scan_step (vals:=vals) (r:=r) he)
    obtain⟨e1,e2,e3⟩:=e
    dsimp only at c0 c1 c2' hfit hx1 hx2 HStep
    obtain⟨f,rfl⟩:=Int.eq_ofNat_of_zero_le hfit.1
    obtain⟨t,rfl⟩:=Int.eq_ofNat_of_zero_le hfit.2.2.1
    have hfM:f<M:=by omega
    have htM:t<M:=by omega
    have k0:=(hkr.out ⟨b,off+i*3,none⟩ (by show b<_;omega)).trans c0
    have k1:=(hkr.out ⟨b,off+i*3+1,none⟩ (by show b<_;omega)).trans c1
    have k2:=(hkr.out ⟨b,off+i*3+2,none⟩ (by show b<_;omega)).trans c2'
    have hI0:(0:Int)≤(i:Int):=by omega
    have hI1:(i:Int)<(L:Int):=by omega
    clear he c0 c1 c2' hfit
    go_wp2
    obtain⟨u,hu⟩:∃u,wr.alloc (.cells #[.int .i64 (f:Int),.int .i64 (t:Int),.int .i64 e3] 46)=u:=⟨_,rfl⟩
    have hbu:Below wr.heap.size wr u:=by rw[←hu];exact (Below.refl _ _).alloc (Nat.le_refl _) _
    have ce:u.heap[wr.heap.size]?=some (.cells #[.int .i64 (f:Int),.int .i64 (t:Int),.int .i64 e3] 46):=by rw[←hu];exact heap_alloc_last wr _
    obtain⟨ue0,ue1,ue2⟩:=zr3 ce
    have hlu:wr.heap.size<u.heap.size:=lt_of_block ce
    have hvr:v.heap.size≤wr.heap.size:=by have h1:=lt_of_block hrw.out;omega
    have hku:Hid (Kept v u):=hide (hkr.out.below hvr hbu)
    have hrwu:=(hbu.block G (lt_of_block hrw.out)).trans hrw.out
    have uf:=((hku.out ⟨b2,off2+f,none⟩ (by show b2<_;omega)).trans (at_cell HR.out (by rw[HM.out];exact hfM)))
    have ut:=((hku.out ⟨b2,off2+t,none⟩ (by show b2<_;omega)).trans (at_cell HR.out (by rw[HM.out];exact htM)))
    have urf:=row_bat hrwu (k:=f) (by omega)
    have urt:=row_bat hrwu (k:=t) (by omega)
    have uff:=frozen_of_row _ _ t _ _ hrwu
    have hbF:=HVB.out (at_ vals f) (by unfold at_;rw[Int.toNat_natCast,List.getElem?_eq_getElem (by rw[HM.out];exact hfM)];exact List.getElem_mem _)
    have hlb2:b2<u.heap.size:=by omega
    have hlG:G<u.heap.size:=lt_of_block hrwu
    have hwu:=hbr.trans (hbu.mono hsr)
    have hwqu:=hbqr.trans (hbu.mono (by omega))
    have HU:=hide hu
    have HRU:=hide hrwu
    have hf0:(0:Int)≤(f:Int):=by omega
    have hf1:(f:Int)<(M:Int):=by omega
    have ht0:(0:Int)≤(t:Int):=by omega
    have ht1:(t:Int)<(M:Int):=by omega
    obtain⟨F,hF⟩:∃F,at_ vals (f:Int)=F:=⟨_,rfl⟩
    obtain⟨X,hX⟩:∃X,at_ vals (t:Int)=X:=⟨_,rfl⟩
    obtain⟨RF,hRF⟩:∃RF,bat r (f:Int)=RF:=⟨_,rfl⟩
    obtain⟨RT,hRT⟩:∃RT,bat r (t:Int)=RT:=⟨_,rfl⟩
    rw[hF] at uf hbF HStep
    rw[hX] at ut HStep
    rw[hRF] at urf HStep
    rw[hRT] at urt HStep
    have HRT:=hide hRT
    clear hu ce hbu hrw hkr hbr hbqr hF hX hRF hRT hrwu k0 k1 k2
    go_wp2
    rw[HU.out]
    refine wp_region_held_drew (S:=Kept u) (by kernel_rfl) (Kept.drew u) (fun hS0=>?_)
    refine tka 0 53 ?_
    refine tka 1 54 ?_
    refine tka 2 55 ?_
    refine tka 3 56 ?_
    refine tka 4 57 ?_
    refine tka 5 58 ?_
    refine ck 6 59 fun K hK=>?_
    go_simp
    refine (give_any _ F (f:Int) (t:Int) e3 hbF.1 hbF.2 hx1 hx2).mono ?_
    rintro e y1 ⟨rfl,hy1⟩
    have hS1:Kept u y1:=hS0.below (by simp) hy1
    have HY1:=hide hy1
    clear hy1
    go_wp2_with fail
    refine hK.out _ _ hS1 (fun hSn=>?_)
    clear hK K
    try simp only[zqd,zqe,zqf]
    refine tka 7 10 ?_
    refine wpAnyH_done (by kernel_rfl) ?_ _
    clear hS0 hSn
    obtain⟨d,hd⟩:∃d,dadd F e3=d:=⟨_,rfl⟩
    rw[hd] at HStep ⊢
    have y0:=(hS1 ⟨wr.heap.size,0,none⟩ hlu).trans ue0
    have ye1:=(hS1 ⟨wr.heap.size,1,none⟩ hlu).trans ue1
    have yt:=(hS1 ⟨b2,off2+t,none⟩ hlb2).trans ut
    have yrf:=(hS1 ⟨G,f,none⟩ hlG).trans urf
    have yrt:=(hS1 ⟨G,t,none⟩ hlG).trans urt
    have hYb:Below u.heap.size u y1:=(Below.refl u.heap.size u).drew.trans HY1.out
    have yrow:=hide ((hYb.block G hlG).trans HRU.out)
    have yfz:=frozen_of_row _ _ t _ _ yrow.out
    have hkY:Hid (Kept v y1):=hide (hku.out.below (by omega) hYb)
    have hwY:=hwu.trans (hYb.mono hwu.size)
    have hwqY:=hwqu.trans (hYb.mono (by omega))
    clear hS1 HY1 hYb ue0 ue1 ue2 uf ut urf urt uff hku hwu hwqu hd HRU HU
    by_cases hgt:d<X
    ·have hn:scan vals es r=none:=by rw[hsc.out,HStep.out,if_pos hgt]
     have htf:tightF (M:Int) es (q:Int) vals=false:=by rw[HT.out,←hcl.out,close_none _ hn]
     have HTF:=hide htf
     clear hn htf
     go_wp2
     simp only[Exit.jump]
     go_ret
     exact⟨ret_bool (by rw[HTF.out]),hwY⟩
    rw[if_neg hgt] at HStep
    by_cases hmk:RF=true∧RT=false∧X=d
    ·obtain⟨rfl,rfl,rfl⟩:=hmk
     have hn:scan vals es r=some (some t):=by rw[hsc.out,HStep.out,if_pos ⟨rfl,rfl,rfl⟩,Int.toNat_natCast]
     have hrt:r[t]?=some false:=by rw[bat_get (by omega),HRT.out]
     have hnew:=heap_setCell_same _ _ t _ _ (.bool true) yrow.out
     rw[List.setIfInBounds_toArray,bools_set] at hnew
     have HNew:=hide hnew
     have HCl:=hide ((close_mark hn hrt).trans hcl.out)
     have HCnt:=hide (cnt_set hrt)
     have HKs:Hid (Kept v (y1.setCell ⟨G,t,none⟩ (.bool true))):=hide (fun p hp=>(World.cell?_setCell_far y1 ⟨G,t,none⟩ p _ (by first | (show p.block≠G;omega) | (show G≠p.block;omega))).trans (hkY.out p hp))
     have HBs:=hide (hwY.setCell (p:=⟨G,t,none⟩) (by show _≤G;omega) (.bool true))
     clear hn hrt hnew hwY hwqY hkY
     go_wp2
     go_step3
     exact⟨rfl,JP.mk G (r.set t true) rfl (by rw[List.length_set];exact hrl) hG HCl HNew.out HKs HBs,by show cntIn _ G<cntIn _ G;rw[cntIn_row HNew.out,cntIn_row HRow0.out];have:=HCnt.out;omega⟩
    rw[if_neg hmk] at HStep
    have HSc:=hide (hsc.out.trans HStep.out)
    have hmk':(RF && !RT && decide (X=d))=false:=by
     rw[Bool.eq_false_iff];intro h;simp only[Bool.and_eq_true,Bool.not_eq_true',decide_eq_true_eq] at h;exact hmk ⟨h.1.1,h.1.2,h.2⟩
    cases RF
    ·go_wp2
     go_roundw
     case rel=>exact⟨i+1,by omega,by go_num,HSc,yrow,hkY,hwY,hwqY⟩
     case measure=>simp[intOf];omega
    cases RT
    ·have hne:¬X=d:=fun h=>hmk ⟨rfl,rfl,h⟩
     go_wp2
     go_roundw
     case rel=>exact⟨i+1,by omega,by go_num,HSc,yrow,hkY,hwY,hwqY⟩
     case measure=>simp[intOf];omega
    go_wp2
    go_roundw
    case rel=>exact⟨i+1,by omega,by go_num,HSc,yrow,hkY,hwY,hwqY⟩
    case measure=>simp[intOf];omega
   obtain rfl:i=L:=by omega
   have hend:scan vals es r=some none:=hsc.out.trans (by rw[←HL.out];exact scan_end _ _ _)
   have htf:tightF (M:Int) es (q:Int) vals=lastOk vals r 0:=by rw[HT.out,←hcl.out,close_done _ hend]
   have HTF:=hide htf
   have HRW:=hide hrw.out
   have HBR:=hide hbr
   clear hend htf hrw gq0 gq1
   go_wp2
   obtain⟨wo,hwo⟩:∃wo,wr=wo:=⟨_,rfl⟩
   subst hwo
   go_loop [96] (fun vi=>∃j:Nat,j≤M∧vi = .int .i64 j∧Hid (lastOk vals r 0=lastOk vals r j)) (fun vi=>M-(intOf vi).toNat)
   case atStart=>exact⟨0,by omega,rfl,hide rfl⟩
   case round=>
    obtain⟨j,hj,rfl,hla⟩:=hrel
    by_cases hjM:j<M
    ·have zc:=((hkr.out ⟨b2,off2+j,none⟩ (by show b2<_;omega)).trans (at_cell HR.out (by rw[HM.out];exact hjM)))
     have zr:=row_bat HRW.out (k:=j) (by omega)
     have HS:=hide (last_step vals r j (by rw[HM.out];exact hjM))
     have HA:Hid (lastAt vals r j=(decide (0≤at_ vals (j:Int)) && decide (at_ vals (j:Int)≤4611686018427387904) && (!decide (at_ vals (j:Int)<4611686018427387904) || bat r (j:Int)))):=hide rfl
     obtain⟨x,hx⟩:∃x,at_ vals (j:Int)=x:=⟨_,rfl⟩
     obtain⟨rb,hrb⟩:∃rb,bat r (j:Int)=rb:=⟨_,rfl⟩
     rw[hx] at zc HA
     rw[hrb] at zr HA
     have hj0:(0:Int)≤(j:Int):=by omega
     have hj1:(j:Int)<(M:Int):=by omega
     clear hx hrb
     have hfin:lastAt vals r j=false→tightF (M:Int) es (q:Int) vals=false:=fun h=>by rw[HTF.out,hla.out,HS.out,h];rfl
     have hgo:lastAt vals r j=true→lastOk vals r 0=lastOk vals r (j+1):=fun h=>by rw[hla.out,HS.out,h];rfl
     have HFin:=hide hfin
     have HGo:=hide hgo
     clear hfin hgo
     by_cases h1:x<0
     ·have HF:=hide (HFin.out (by rw[HA.out,decide_eq_false (by omega)];rfl))
      go_wp2
      simp only[Exit.jump]
      go_ret
      exact⟨ret_bool (by rw[HF.out]),HBR.out⟩
     by_cases h2:4611686018427387904<x
     ·have HF:=hide (HFin.out (by rw[HA.out,decide_eq_true (show 0≤x by omega),decide_eq_false (show ¬x≤4611686018427387904 by omega)];rfl))
      go_wp2
      simp only[Exit.jump]
      go_ret
      exact⟨ret_bool (by rw[HF.out]),HBR.out⟩
     by_cases h3:x<4611686018427387904
     ·cases rb
      ·have HF:=hide (HFin.out (by rw[HA.out,decide_eq_true (show 0≤x by omega),decide_eq_true (show x≤4611686018427387904 by omega),decide_eq_true h3];rfl))
       go_wp2
       simp only[Exit.jump]
       go_ret
       exact⟨ret_bool (by rw[HF.out]),HBR.out⟩
      have HG:=hide (HGo.out (by rw[HA.out,decide_eq_true (show 0≤x by omega),decide_eq_true (show x≤4611686018427387904 by omega),decide_eq_true h3];rfl))
      go_wp2
      go_round
      case rel=>exact⟨j+1,by omega,by go_num,HG⟩
      case measure=>simp[intOf];omega
     have HG:=hide (HGo.out (by rw[HA.out,decide_eq_true (show 0≤x by omega),decide_eq_true (show x≤4611686018427387904 by omega),decide_eq_false h3];rfl))
     go_wp2
     go_round
     case rel=>exact⟨j+1,by omega,by go_num,HG⟩
     case measure=>simp[intOf];omega
    obtain rfl:M=j:=by omega
    have HF:Hid (tightF (M:Int) es (q:Int) vals=true):=hide (by rw[HTF.out,hla.out,←HM.out];exact last_end _ _)
    go_wp2
    simp only[Exit.jump]
    go_ret
    exact⟨ret_bool (by rw[HF.out]),HBR.out⟩
 have HF:Hid (tightF V es s vals=false):=hide (by rw[tightF,if_neg hgood])
 obtain⟨cg0,cg1⟩:=zr2 HCG.out
 by_cases hchk:checkF V es=0
 ·obtain⟨hV1,hV2,_⟩:=checkF_zero hchk
  have HChk:=hide hchk
  by_cases h1:s<0
  ·have HG:=hide hgood
   clear hgood hchk
   go_enter Tryz.func19,Tryz.ntmps19
   go_wp2
   rw[HV.out]
   refine wp_scope_jumps 0 (fun _ _=>False) (fun _ _=>0) rfl ?_ (fun _ _ h=>h.elim)
   go_wp2_with fail
   refine (check_any _ _ A es L c HL.out (HE.out.more (Nat.le_of_lt hlg)) hc).mono ?_
   rintro e w1 ⟨rfl,hb1⟩
   have g0:=(hb1.cell (p:=⟨w.heap.size,0,none⟩) hlg).trans cg0
   have hbw:=hide (HB.out.trans (hb1.mono (by omega)))
   rw[HChk.out]
   clear hb1
   go_wp2
   simp only[Exit.jump]
   go_ret
   exact⟨ret_bool (by rw[HF.out]),hbw.out⟩
  by_cases h2:V≤s
  ·have HG:=hide hgood
   clear hgood hchk
   go_enter Tryz.func19,Tryz.ntmps19
   go_wp2
   rw[HV.out]
   refine wp_scope_jumps 0 (fun _ _=>False) (fun _ _=>0) rfl ?_ (fun _ _ h=>h.elim)
   go_wp2_with fail
   refine (check_any _ _ A es L c HL.out (HE.out.more (Nat.le_of_lt hlg)) hc).mono ?_
   rintro e w1 ⟨rfl,hb1⟩
   have g0:=(hb1.cell (p:=⟨w.heap.size,0,none⟩) hlg).trans cg0
   have hbw:=hide (HB.out.trans (hb1.mono (by omega)))
   rw[HChk.out]
   clear hb1
   go_wp2
   simp only[Exit.jump]
   go_ret
   exact⟨ret_bool (by rw[HF.out]),hbw.out⟩
  by_cases h3:(M:Int)=V
  ·obtain⟨q,rfl⟩:=Int.eq_ofNat_of_zero_le (show 0≤s by omega)
   obtain⟨b2,off2,rfl,hb2,_⟩:=HR.out.at_ (k:=q) (by rw[List.length_map,HM.out];omega)
   have cs0:=at_cell HR.out (k:=q) (by rw[HM.out];omega)
   have hne:¬at_ vals (q:Int)=0:=fun h=>hgood ⟨hchk,by omega,by omega,by rw[HM.out];exact h3,h⟩
   subst h3
   obtain⟨y,hy⟩:∃y,at_ vals (q:Int)=y:=⟨_,rfl⟩
   rw[hy] at cs0 hne
   have hI0:(0:Int)≤(q:Int):=by omega
   have hI1:(q:Int)<(M:Int):=by omega
   have HG:=hide hgood
   clear hgood hchk hy
   have dq1:decide ((q:Int)<0)=false:=decide_eq_false (by omega)
   have dq2:decide (M≤q)=false:=decide_eq_false (by omega)
   go_enter Tryz.func19,Tryz.ntmps19
   go_wp2
   rw[HV.out]
   refine wp_scope_jumps 0 (fun _ _=>False) (fun _ _=>0) rfl ?_ (fun _ _ h=>h.elim)
   go_wp2_with fail
   refine (check_any _ _ A es L c HL.out (HE.out.more (Nat.le_of_lt hlg)) hc).mono ?_
   rintro e w1 ⟨rfl,hb1⟩
   have g0:=(hb1.cell (p:=⟨w.heap.size,0,none⟩) hlg).trans cg0
   have hbw:=hide (HB.out.trans (hb1.mono (by omega)))
   rw[HChk.out]
   have g2:=(hb1.cell (p:=⟨b2,off2+q,none⟩) (by show b2<_;omega)).trans cs0
   clear hb1 cs0
   go_wp2
   simp only[Exit.jump]
   go_ret
   exact⟨ret_bool (by rw[HF.out]),hbw.out⟩
  have HG:=hide hgood
  clear hgood hchk
  go_enter Tryz.func19,Tryz.ntmps19
  go_wp2
  rw[HV.out]
  refine wp_scope_jumps 0 (fun _ _=>False) (fun _ _=>0) rfl ?_ (fun _ _ h=>h.elim)
  go_wp2_with fail
  refine (check_any _ _ A es L c HL.out (HE.out.more (Nat.le_of_lt hlg)) hc).mono ?_
  rintro e w1 ⟨rfl,hb1⟩
  have g0:=(hb1.cell (p:=⟨w.heap.size,0,none⟩) hlg).trans cg0
  have hbw:=hide (HB.out.trans (hb1.mono (by omega)))
  rw[HChk.out]
  clear hb1
  go_wp2
  simp only[Exit.jump]
  go_ret
  exact⟨ret_bool (by rw[HF.out]),hbw.out⟩
 have HG:=hide hgood
 clear hgood
 go_enter Tryz.func19,Tryz.ntmps19
 go_wp2
 rw[HV.out]
 refine wp_scope_jumps 0 (fun _ _=>False) (fun _ _=>0) rfl ?_ (fun _ _ h=>h.elim)
 go_wp2_with fail
 refine (check_any _ _ A es L c HL.out (HE.out.more (Nat.le_of_lt hlg)) hc).mono ?_
 rintro e w1 ⟨rfl,hb1⟩
 have g0:=(hb1.cell (p:=⟨w.heap.size,0,none⟩) hlg).trans cg0
 have hbw:=hide (HB.out.trans (hb1.mono (by omega)))
 obtain⟨z,hz⟩:∃z,checkF V es=z:=⟨_,rfl⟩
 rw[hz] at hchk ⊢
 clear hb1 hz
 go_wp2
 simp only[Exit.jump]
 go_ret
 exact⟨ret_bool (by rw[HF.out]),hbw.out⟩
end Go.Proofs.YtgbahnlgblahpaaGreat
namespace Go.Proofs.YtgbahnlgblahpaaGreat
def viol (vals:List Int) (es:List Ed):Bool:=es.any fun e=>decide (dadd (at_ vals e.1) e.2.2<at_ vals e.2.1)
def mark (vals:List Int) (r:List Bool) (e:Ed):List Bool:=if bat r e.1=true∧dadd (at_ vals e.1) e.2.2=at_ vals e.2.1 then r.set e.2.1.toNat true else r
def pass (vals:List Int) (es:List Ed) (r:List Bool):List Bool:=es.foldl (mark vals) r
def rounds (vals:List Int) (es:List Ed):Nat→List Bool→List Bool
 | 0,r=>r
 | n+1,r=>rounds vals es n (pass vals es r)
def first (V s:Int):List Bool:=(List.replicate V.toNat false).set s.toNat true
def rtightF (V:Int) (es:List Ed) (s:Int) (vals:List Int):Bool:=
 if checkF V es=0∧0≤s∧s<V∧(vals.length:Int)=V∧at_ vals s=0 then !viol vals es && lastOk vals (rounds vals es V.toNat (first V s)) 0 else false
def Shut_ (vals:List Int) (es:List Ed) (r:List Bool):Prop:=∀e∈es,bat r e.1=true→dadd (at_ vals e.1) e.2.2=at_ vals e.2.1→bat r e.2.1=true
def Le (r q:List Bool):Prop:=∀i:Int,bat r i=true→bat q i=true
theorem Le.refl (r:List Bool):Le r r:=fun _ h=>h
theorem Le.trans {a b c:List Bool} (h:Le a b) (g:Le b c):Le a c:=fun i hi=>g i (h i hi)
theorem bat_set (r:List Bool) (t:Nat) (i:Int):bat (r.set t true) i=true↔((i.toNat=t∧t<r.length)∨bat r i=true):=by
 unfold bat
 rw[List.getElem?_set]
 by_cases h:t=i.toNat
 ·subst h
  by_cases h2:i.toNat<r.length
  ·simp[h2]
  rw[if_pos rfl,if_neg h2,List.getElem?_eq_none (by omega)]
  simp;omega
 rw[if_neg h]
 constructor
 ·exact .inr
 rintro (⟨h1,_⟩ | h1)
 ·exact absurd h1.symm h
 exact h1
theorem Le.count:∀{r q:List Bool},r.length=q.length→Le r q→cnt q≤cnt r∧(cnt q=cnt r→q=r):=by
 intro r
 induction r with
 | nil=>intro q hl _;cases q with
  | nil=>exact⟨Nat.le_refl _,fun _=>rfl⟩
  | cons _ _=>cases hl
 | cons a r ih=>
  intro q hl h
  cases q with
  | nil=>cases hl
  | cons b q=>
   have hl':r.length=q.length:=by simpa using hl
   have hab:a=true→b=true:=fun e=>by
    have:=h 0
    simp[bat] at this
    exact this e
   have hle:Le r q:=fun i hi=>by
    have:=h ((i.toNat:Int)+1)
    unfold bat at this hi ⊢
    rw[show ((i.toNat:Int)+1).toNat=i.toNat+1 by omega] at this
    simpa using this (by simpa using hi)
   obtain⟨h1,h2⟩:=ih hl' hle
   unfold cnt at h1 h2 ⊢
   rw[List.countP_cons,List.countP_cons]
   cases a <;> cases b
   ·simp only[Bool.not_false,if_true]
    refine⟨by omega,fun e=>?_⟩
    rw[h2 (by omega)]
   ·simp only[Bool.not_false,Bool.not_true,if_true,Bool.false_eq_true,if_false]
    exact⟨by omega,fun e=>by omega⟩
   ·exact absurd (hab rfl) (by simp)
   simp only[Bool.not_true,Bool.false_eq_true,if_false]
   refine⟨by omega,fun e=>?_⟩
   rw[h2 (by omega)]
theorem Le.anti {r q:List Bool} (hl:r.length=q.length) (h:Le r q) (g:Le q r):r=q:=by
 have h1:=Le.count hl h
 have h2:=Le.count hl.symm g
 exact (h1.2 (by omega)).symm
theorem scan_spec (vals:List Int) (r:List Bool):∀es:List Ed,match scan vals es r with
  | none=>viol vals es=true
  | some none=>viol vals es=false∧Shut_ vals es r
  | some (some t)=>∃e∈es,bat r e.1=true∧bat r e.2.1=false∧dadd (at_ vals e.1) e.2.2=at_ vals e.2.1∧t=e.2.1.toNat:=by
 intro es
 induction es with
 | nil=>exact⟨rfl,fun e he=>by cases he⟩
 | cons e es ih=>
  rw[scan]
  have hv:viol vals (e :: es)=(decide (dadd (at_ vals e.1) e.2.2<at_ vals e.2.1) || viol vals es):=rfl
  by_cases h1:dadd (at_ vals e.1) e.2.2<at_ vals e.2.1
  ·rw[if_pos h1]
   show viol vals (e :: es)=true
   rw[hv,decide_eq_true h1];rfl
  rw[if_neg h1]
  by_cases h2:bat r e.1=true∧bat r e.2.1=false∧at_ vals e.2.1=dadd (at_ vals e.1) e.2.2
  ·rw[if_pos h2]
   exact⟨e,by simp,h2.1,h2.2.1,h2.2.2.symm,rfl⟩
  rw[if_neg h2]
  cases hs:scan vals es r with
  | none=>
   rw[hs] at ih
   show viol vals (e :: es)=true
   rw[hv,show viol vals es=true from ih,Bool.or_true]
  | some o=>
   rw[hs] at ih
   cases o with
   | none=>
    obtain⟨i1,i2⟩:=ih
    refine⟨by rw[hv,decide_eq_false h1,i1];rfl,fun x hx=>?_⟩
    rcases List.mem_cons.1 hx with rfl | hx
    ·intro a b
     cases hb:bat r x.2.1 with
     | true=>rfl
     | false=>exact absurd ⟨a,hb,b.symm⟩ h2
    exact i2 x hx
   | some t=>
    obtain⟨x,hx,h⟩:=ih
    exact⟨x,List.mem_cons_of_mem _ hx,h⟩
theorem bat_int {r:List Bool} {i:Int} (h0:0≤i) (h:i<r.length):r[i.toNat]?=some (bat r i):=by
 unfold bat
 rw[List.getElem?_eq_getElem (by omega)];rfl
def Within (es:List Ed) (M:Nat):Prop:=∀e∈es,0≤e.1∧e.1<M∧0≤e.2.1∧e.2.1<M
theorem close_spec (vals:List Int) (es:List Ed) (M:Nat) (hw:Within es M):∀(n:Nat) (r:List Bool),r.length=M→cnt r<n→match close vals es n r with
  | none=>viol vals es=true
  | some q=>viol vals es=false∧Shut_ vals es q∧q.length=M∧Le r q∧∀x,Shut_ vals es x→Le r x→Le q x:=by
 intro n
 induction n with
 | zero=>intro r _ h;omega
 | succ n ih=>
  intro r hl hc
  have hs:=scan_spec vals r es
  rw[close]
  cases h:scan vals es r with
  | none=>rw[h] at hs;exact hs
  | some o=>
   rw[h] at hs
   cases o with
   | none=>exact⟨hs.1,hs.2,hl,Le.refl _,fun x _ h=>h⟩
   | some t=>
    obtain⟨e,he,h1,h2,h3,rfl⟩:=hs
    obtain⟨w1,w2,w3,w4⟩:=hw e he
    have hget:=bat_int (r:=r) w3 (by omega)
    rw[h2] at hget
    have hcs:=cnt_set hget
    have hle:Le r (r.set e.2.1.toNat true):=fun i hi=>(bat_set _ _ _).2 (.inr hi)
    have:=ih (r.set e.2.1.toNat true) (by rw[List.length_set];exact hl) (by omega)
    show match close vals es n (r.set e.2.1.toNat true) with
     | none=>viol vals es=true
     | some q=>viol vals es=false∧Shut_ vals es q∧q.length=M∧Le r q∧∀x,Shut_ vals es x→Le r x→Le q x
    cases hq:close vals es n (r.set e.2.1.toNat true) with
    | none=>rw[hq] at this;exact this
    | some q=>
     rw[hq] at this
     obtain⟨a,b,c,d,f⟩:=this
     refine⟨a,b,c,hle.trans d,fun x hx hrx=>f x hx fun i hi=>?_⟩
     rcases (bat_set _ _ _).1 hi with ⟨h4,h5⟩ | h4
     ·have h6:=hx e he (hrx _ h1) h3
      unfold bat at h6 ⊢
      rw[h4];exact h6
     exact hrx i h4
theorem mark_len (vals:List Int) (r:List Bool) (e:Ed):(mark vals r e).length=r.length:=by
 unfold mark;split <;> simp
theorem mark_le (vals:List Int) (r:List Bool) (e:Ed):Le r (mark vals r e):=by
 unfold mark
 split
 ·exact fun i hi=>(bat_set _ _ _).2 (.inr hi)
 exact Le.refl _
theorem mark_least (vals:List Int) (es:List Ed) (r x:List Bool) (e:Ed) (he:e∈es) (hx:Shut_ vals es x) (h:Le r x):Le (mark vals r e) x:=by
 unfold mark
 split
 ·rename_i hc
  intro i hi
  rcases (bat_set _ _ _).1 hi with ⟨h4,h5⟩ | h4
  ·have h6:=hx e he (h _ hc.1) hc.2
   unfold bat at h6 ⊢
   rw[h4];exact h6
  exact h i h4
 exact h
theorem fold_spec (vals:List Int) (es:List Ed):∀(l:List Ed) (r:List Bool),(∀e∈l,e∈es) →
  (l.foldl (mark vals) r).length=r.length∧Le r (l.foldl (mark vals) r)∧(∀x,Shut_ vals es x→Le r x→Le (l.foldl (mark vals) r) x)∧(l.foldl (mark vals) r=r→∀e∈l,mark vals r e=r):=by
 intro l
 induction l with
 | nil=>intro r _;exact⟨rfl,Le.refl _,fun x _ h=>h,fun _ e he=>by cases he⟩
 | cons e l ih=>
  intro r hm
  obtain⟨h1,h2,h3,h4⟩:=ih (mark vals r e) (fun x hx=>hm x (List.mem_cons_of_mem _ hx))
  rw[List.foldl_cons]
  refine⟨by rw[h1,mark_len],(mark_le vals r e).trans h2,fun x hx h=>h3 x hx (mark_least vals es r x e (hm e (by simp)) hx h),fun heq=>?_⟩
  have hme:mark vals r e=r:=(Le.anti (by rw[mark_len]) (mark_le vals r e) (by rw[heq] at h2;exact h2)).symm
  intro x hx
  rcases List.mem_cons.1 hx with rfl | hx
  ·exact hme
  rw[hme] at heq h4
  exact h4 heq x hx
theorem mark_fix {vals:List Int} {r:List Bool} {e:Ed} (h:mark vals r e=r) (h0:0≤e.2.1) (h1:e.2.1<r.length) (a:bat r e.1=true) (b:dadd (at_ vals e.1) e.2.2=at_ vals e.2.1):bat r e.2.1=true:=by
 unfold mark at h
 rw[if_pos ⟨a,b⟩] at h
 rw[←h]
 exact (bat_set _ _ _).2 (.inl ⟨rfl,by omega⟩)
theorem rounds_fix (vals:List Int) (es:List Ed) (r:List Bool) (h:pass vals es r=r):∀n,rounds vals es n r=r:=by
 intro n
 induction n with
 | zero=>rfl
 | succ n ih=>rw[rounds,h,ih]
theorem rounds_spec (vals:List Int) (es:List Ed) (M:Nat) (hw:Within es M):∀(n:Nat) (r:List Bool),r.length=M→cnt r<n →
  Shut_ vals es (rounds vals es n r)∧(rounds vals es n r).length=M∧Le r (rounds vals es n r)∧∀x,Shut_ vals es x→Le r x→Le (rounds vals es n r) x:=by
 intro n
 induction n with
 | zero=>intro r _ h;omega
 | succ n ih=>
  intro r hl hc
  obtain⟨h1,h2,h3,h4⟩:=fold_spec vals es es r (fun _ h=>h)
  change (pass vals es r).length=r.length at h1
  change Le r (pass vals es r) at h2
  change pass vals es r=r→_ at h4
  by_cases h:pass vals es r=r
  ·rw[rounds_fix vals es r h]
   exact⟨fun e he=>mark_fix (h4 h e he) (hw e he).2.2.1 (by have:=(hw e he).2.2.2;omega),hl,Le.refl _,fun x _ h=>h⟩
  have hlt:cnt (pass vals es r)<n:=by
   have:=Le.count h1.symm h2
   have h5:cnt (pass vals es r)≠cnt r:=fun e=>h (this.2 e)
   omega
  obtain⟨a,b,c,d⟩:=ih (pass vals es r) (by rw[h1,hl]) hlt
  rw[rounds]
  exact⟨a,b,h2.trans c,fun x hx hr=>d x hx (h3 x hx hr)⟩
theorem first_len (V s:Int):(first V s).length=V.toNat:=by simp[first]
theorem first_cnt (V s:Int) (h0:0≤s) (h1:s<V):cnt (first V s)<V.toNat:=by
 have h:=cnt_set (r:=List.replicate V.toNat false) (t:=s.toNat) (by rw[List.getElem?_replicate,if_pos (by omega)])
 have h2:cnt (List.replicate V.toNat false)=V.toNat:=by unfold cnt;rw[List.countP_replicate];simp
 unfold first
 omega
theorem within_of {V:Int} {es:List Ed} (h:checkF V es=0):Within es V.toNat:=fun e he=>by
 obtain⟨i,hi⟩:=List.getElem?_of_mem he
 have:=fits_bounds (ok_all (checkF_zero h).2.2 hi)
 omega
theorem tight_eq (V:Int) (es:List Ed) (s:Int) (vals:List Int):tightF V es s vals=rtightF V es s vals:=by
 unfold tightF rtightF
 by_cases h:checkF V es=0∧0≤s∧s<V∧(vals.length:Int)=V∧at_ vals s=0
 ·rw[if_pos h,if_pos h]
  change (match close vals es V.toNat (first V s) with | none=>false | some r=>lastOk vals r 0)=_
  have hc:=first_cnt V s h.2.1 h.2.2.1
  have hw:=within_of h.1
  have h1:=close_spec vals es _ hw V.toNat (first V s) (first_len V s) hc
  obtain⟨a,b,c,d⟩:=rounds_spec vals es _ hw V.toNat (first V s) (first_len V s) hc
  cases hq:close vals es V.toNat (first V s) with
  | none=>
   rw[hq] at h1
   rw[show viol vals es=true from h1];rfl
  | some q=>
   rw[hq] at h1
   obtain⟨e1,e2,e3,e4,e5⟩:=h1
   rw[e1,Le.anti (by rw[e3,b]) (e5 _ a c) (d _ e2 e4)]
   rfl
 rw[if_neg h,if_neg h]
end Go.Proofs.YtgbahnlgblahpaaGreat

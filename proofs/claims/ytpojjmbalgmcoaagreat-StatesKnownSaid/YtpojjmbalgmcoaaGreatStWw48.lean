/- Lemmas: Pck. -/
import Derived.Deep.DeepCutAuto
import Derived.Test.YtpojjmbalgmcoaaGreatStWw6
import Derived.Test.YtpojjmbalgmcoaaGreatStWw29
set_option linter.unusedVariables false
set_option linter.unusedSimpArgs false
set_option maxRecDepth 100000
set_option maxHeartbeats 16000000
namespace Go.Proofs.YtpojjmbalgmcoaaGreat
open Go.RowKit
def orOf (x y:Int):Int:=if x=0 then y else x
theorem or_any (w:World) (b:Nat) (x y:Int) (c0:w.cell? ⟨b,0,none⟩=some (.int .i64 x)) (c1:w.cell? ⟨b,1,none⟩=some (.int .i64 y)) :
  Calls Tryz.prog 89 #[.slice (some ⟨b,0,none⟩) 2 2] w fun e w'=>e = .returned (.int .i64 (orOf x y))∧w'=w:=by
 go_enter Tryz.func89,Tryz.ntmps89
 go_wp2
 go_loop [5,8] (fun v5 vi=>vi = .int .i64 0∨(vi = .int .i64 1∧x=0)∨(vi = .int .i64 2∧x=0∧y=0)) (fun _ vi=>2-(intOf vi).toNat)
 case atStart=>exact .inl rfl
 case round=>
  rcases hrel with rfl | ⟨rfl,hx⟩ | ⟨rfl,hx,hy⟩
  ·by_cases h:x=0
   ·subst h
    go_wp2
    go_round
    case rel=>first | exact .inr (.inl ⟨rfl,rfl⟩) | simp
    case measure=>simp[intOf]
   go_wp2
   go_ret
   exact⟨ret_i64 (by rw[orOf,if_neg h]),rfl⟩
  ·subst hx
   by_cases h:y=0
   ·subst h
    go_wp2
    go_round
    case rel=>first | exact .inr (.inr ⟨rfl,rfl,rfl⟩) | simp
    case measure=>simp[intOf]
   go_wp2
   go_ret
   exact⟨ret_i64 (by rw[orOf,if_pos rfl]),rfl⟩
  subst hx;subst hy
  go_wp2
  go_ret
  exact⟨ret_i64 (by rw[orOf,if_pos rfl]),rfl⟩
def orderOf (a b:Ed):Int:=orOf (cmpOf a.1 b.1) (cmpOf a.2.1 b.2.1)
theorem order_any (w:World) (a1 a2 a3 b1 b2 b3:Int) :
  Calls Tryz.prog 70 #[.agg #[.int .i64 a1,.int .i64 a2,.int .i64 a3],.agg #[.int .i64 b1,.int .i64 b2,.int .i64 b3]] w fun e w'=>e = .returned (.int .i64 (orderOf (a1,a2,a3) (b1,b2,b3)))∧Below w.heap.size w w':=by
 obtain⟨v,hv⟩:∃v,(w.alloc (.cells #[.int .i64 a1,.int .i64 a2,.int .i64 a3] 57)).alloc (.cells #[.int .i64 b1,.int .i64 b2,.int .i64 b3] 57)=v:=⟨_,rfl⟩
 have hz:v.heap.size=w.heap.size+2:=by rw[←hv];simp
 have hb:Below w.heap.size w v:=by rw[←hv];exact ((Below.refl _ _).alloc (Nat.le_refl _) _).alloc (by simp) _
 have ca:v.heap[w.heap.size]?=some (.cells #[.int .i64 a1,.int .i64 a2,.int .i64 a3] 57):=by
  rw[←hv];exact (Below.heap_alloc _ _ _ (by simp)).trans (heap_alloc_last w _)
 have cb:v.heap[w.heap.size+1]?=some (.cells #[.int .i64 b1,.int .i64 b2,.int .i64 b3] 57):=by
  rw[←hv]
  have h:=heap_alloc_last (w.alloc (.cells #[.int .i64 a1,.int .i64 a2,.int .i64 a3] 57)) (.cells #[.int .i64 b1,.int .i64 b2,.int .i64 b3] 57)
  rw[show (w.alloc (.cells #[.int .i64 a1,.int .i64 a2,.int .i64 a3] 57)).heap.size=w.heap.size+1 by simp] at h
  exact h
 obtain⟨ca0,ca1⟩:=zr2 ca
 obtain⟨cb0,cb1⟩:=zr2 cb
 have l0:w.heap.size<v.heap.size:=by omega
 have l1:w.heap.size+1<v.heap.size:=by omega
 have HV:=hide hv
 have HB:=hide hb
 have HZ:=hide hz
 clear hv hb hz ca cb
 go_enter Tryz.func70,Tryz.ntmps70
 go_wp2
 rw[HV.out]
 refine wp_region_held_drew (S:=Kept v) (by kernel_rfl) (Kept.drew v) (fun hS0=>?_)
 refine tka 0 5 ?_
 refine tka 1 6 ?_
 refine tka 2 7 ?_
 refine tka 3 8 ?_
 refine tka 5 10 ?_
 refine tka 6 11 ?_
 refine tka 7 12 ?_
 refine tka 8 13 ?_
 refine ck 4 9 fun K hK=>?_
 go_simp
 refine (compare_any _ a1 b1).mono ?_
 rintro e y1 ⟨rfl,rfl⟩
 go_wp2_with fail
 refine hK.out _ _ hS0 (fun hSn=>?_)
 clear hK K
 try simp only[zqd,zqe,zqf]
 refine ck 9 14 fun K hK=>?_
 go_simp
 refine (compare_any _ a2 b2).mono ?_
 rintro e y2 ⟨rfl,rfl⟩
 go_wp2_with fail
 refine hK.out _ _ hS0 (fun hSn=>?_)
 clear hK K
 try simp only[zqd,zqe,zqf]
 have hal:Below v.drew.heap.size v.drew (v.drew.alloc (.cells #[.int .i64 (cmpOf a1 b1),.int .i64 (cmpOf a2 b2)] 3)):=(Below.refl _ _).alloc (Nat.le_refl _) _
 have hS1:=hS0.below (by simp) hal
 have HAL:=hide hal
 clear hal
 refine ck 10 15 fun K hK=>?_
 go_simp
 refine hK.out _ _ hS1 (fun hSn=>?_)
 clear hK K
 try simp only[zqd,zqe,zqf]
 refine ck 11 16 fun K hK=>?_
 go_simp
 refine (or_any _ _ (cmpOf a1 b1) (cmpOf a2 b2) (by first | (rw[World.cell?_alloc_mark];rfl) | (have h:=World.cell?_alloc_mark;simp)) (by first | (rw[World.cell?_alloc_mark];rfl) | simp)).mono ?_
 rintro e y3 ⟨rfl,rfl⟩
 go_wp2_with fail
 refine hK.out _ _ hS1 (fun hSn=>?_)
 clear hK K
 try simp only[zqd,zqe,zqf]
 refine tka 12 4 ?_
 refine wpAnyH_done (by kernel_rfl) ?_ _
 go_wp2
 go_ret
 exact⟨rfl,HB.out.drew.trans (HAL.out.mono HB.out.drew.size)⟩
def fitsE (e:Ed) (V:Int):Bool:=fitsB e.1 e.2.1 e.2.2 V
def okAt (V:Int) (es:List Ed) (i:Nat):Bool:=match es[i]? with
 | none=>true
 | some e=>fitsE e V && (match (if i=0 then none else es[i-1]?) with | none=>true | some p=>decide (orderOf p e<0))
def okFrom (V:Int) (es:List Ed) (i:Nat):Bool:=(List.range (es.length-i)).all fun k=>okAt V es (i+k)
theorem okFrom_end (V:Int) (es:List Ed):okFrom V es es.length=true:=by simp[okFrom]
theorem okFrom_step (V:Int) (es:List Ed) (i:Nat) (h:i<es.length):okFrom V es i=(okAt V es i && okFrom V es (i+1)):=by
 unfold okFrom
 rw[show es.length-i=(es.length-(i+1))+1 by omega,List.range_succ_eq_map,List.all_cons,List.all_map]
 congr 2
 funext k
 simp only[Function.comp]
 rw[show i+Nat.succ k=i+1+k by omega]
def checkF (V:Int) (es:List Ed):Int:=if V > 512∨es.length > 8192 then 3 else if V<1 then 40 else if okFrom V es 0=true then 0 else 40
theorem check_any (w:World) (V:Int) (A:Option Addr) (es:List Ed) (L c:Nat) (hL:es.length=L) (hE:Eds w w.heap.size A es) (hc:L≤9223372036854775807) :
  Calls Tryz.prog 39 #[.agg #[.int .i64 V,.slice A L c]] w fun e w'=>e = .returned (.int .i64 (checkF V es))∧Below w.heap.size w w':=by
 obtain⟨v,hv⟩:∃v,w.alloc (.cells #[.int .i64 V,.slice A L c] 24)=v:=⟨_,rfl⟩
 have hz:v.heap.size=w.heap.size+1:=by rw[←hv];simp
 have hb:Below w.heap.size w v:=by rw[←hv];exact (Below.refl _ _).alloc (Nat.le_refl _) _
 have cg:v.heap[w.heap.size]?=some (.cells #[.int .i64 V,.slice A L c] 24):=by rw[←hv];exact heap_alloc_last w _
 obtain⟨cg0,cg1⟩:=zr2 cg
 have hlg:w.heap.size<v.heap.size:=by omega
 have HE:=hide (Els.more (hE.below hb (Nat.le_refl _)) (Nat.le_of_lt hlg))
 have HV:=hide hv
 have HB:=hide hb
 have HL:=hide hL
 have HZ:=hide hz
 clear hv hb hz cg hE hL
 by_cases h1:V > 512∨L > 8192
 ·have hF:checkF V es=3:=by rw[checkF,HL.out,if_pos h1]
  have HF:=hide hF
  clear hF
  by_cases hV:512<V
  ·go_enter Tryz.func39,Tryz.ntmps39
   go_wp2
   go_ret
   rw[HV.out,HF.out]
   exact⟨rfl,HB.out⟩
  have hV':¬512<V:=by omega
  have hL':(8192:Int)<(L:Int):=by omega
  go_enter Tryz.func39,Tryz.ntmps39
  go_wp2
  go_ret
  rw[HV.out,HF.out]
  exact⟨rfl,HB.out⟩
 have hV:¬512<V:=by omega
 have hL':¬(8192:Int)<(L:Int):=by omega
 by_cases h2:V<1
 ·have hF:checkF V es=40:=by rw[checkF,HL.out,if_neg h1,if_pos h2]
  have HF:=hide hF
  clear hF
  go_enter Tryz.func39,Tryz.ntmps39
  go_wp2
  go_ret
  rw[HV.out,HF.out]
  exact⟨rfl,HB.out⟩
 have hF:checkF V es=if okFrom V es 0=true then 0 else 40:=by rw[checkF,HL.out,if_neg h1,if_neg h2]
 have HF:=hide hF
 clear hF h1
 have hL2:L≤8192:=by omega
 go_enter Tryz.func39,Tryz.ntmps39
 go_wp2
 rw[HV.out]
 go_loopw [3,22] (fun v3 vi wr=>∃i:Nat,i≤L∧vi = .int .i64 i∧Hid (okFrom V es 0=okFrom V es i)∧Kept v wr∧Below w.heap.size w wr∧v.heap.size≤wr.heap.size) (fun _ vi _=>L-(intOf vi).toNat)
 case atStart=>exact⟨0,by omega,rfl,hide rfl,Kept.refl v,HB.out,Nat.le_refl _⟩
 case round=>
  obtain⟨i,hi,rfl,hok,hk,hbw,hsz⟩:=hrel
  have hs:=hbw.size
  by_cases hlt:i<L
  ·obtain⟨e,he⟩:∃e,es[i]?=some e:=⟨_,List.getElem?_eq_getElem (by rw[HL.out];exact hlt)⟩
   obtain⟨b,off,rfl,hbl,c0,c1,c2,_,_⟩:=Eds.get HE.out he
   have hI0:(0:Int)≤(i:Int):=by omega
   have hI1:(i:Int)<(L:Int):=by omega
   have HStep:=hide (okFrom_step V es i (by rw[HL.out];exact hlt))
   have HEi:=hide he
   clear he
   obtain⟨e1,e2,e3⟩:=e
   dsimp only at c0 c1 c2
   have hk2:=hk
   have HKv:=hide hk
   obtain⟨u,hu⟩:∃u,wr.alloc (.cells #[.int .i64 e1,.int .i64 e2,.int .i64 e3] 57)=u:=⟨_,rfl⟩
   have hzu:u.heap.size=wr.heap.size+1:=by rw[←hu];simp
   have hbu:Below wr.heap.size wr u:=by rw[←hu];exact (Below.refl _ _).alloc (Nat.le_refl _) _
   have hku:Kept v u:=hk2.below hsz hbu
   have ce:u.heap[wr.heap.size]?=some (.cells #[.int .i64 e1,.int .i64 e2,.int .i64 e3] 57):=by rw[←hu];exact heap_alloc_last wr _
   obtain⟨ue0,ue1,ue2⟩:=zr3 ce
   have ug0:=(hku ⟨w.heap.size,0,none⟩ hlg).trans cg0
   have ug1:=(hku ⟨w.heap.size,1,none⟩ hlg).trans cg1
   have m0:w.heap.size<u.heap.size:=by omega
   have m1:wr.heap.size<u.heap.size:=by omega
   have m2:b<u.heap.size:=by omega
   have HU:=hide hu
   have hwu:=hbw.trans (hbu.mono hs)
   have hsu:=hwu.size
   have hlast:∀w',Below u.drew.heap.size u.drew w'→Kept v w'∧Below w.heap.size w w'∧v.heap.size≤w'.heap.size:=fun w' h=>⟨(hku.below (by omega) ((Below.refl u.heap.size u).drew)).below (by simp;omega) h,hwu.drew.trans (h.mono hwu.drew.size),by have:=h.size;simp at this;omega⟩
   have HLAST:=hide hlast
   clear hk2 hku hu ce hbu hlast hwu hzu
   go_wp2
   rw[HU.out]
   clear hk
   by_cases hf:fitsB e1 e2 e3 V=true
   ·rcases Nat.eq_zero_or_pos i with hi0 | hi0
    ·subst hi0
     rw[show ((0:Nat):Int)=0 from rfl]
     refine wp_region_held_drew (S:=Kept u) (by kernel_rfl) (Kept.drew u) (fun hS0=>?_)
     refine tka 0 27 ?_
     refine tka 1 28 ?_
     refine tka 2 29 ?_
     refine ck 3 30 fun K hK=>?_
     go_simp
     refine (fits_any _ e1 e2 e3 V).mono ?_
     rintro e y1 ⟨rfl,hy1⟩
     rw[hf]
     have hS1:Kept u y1:=hS0.below (by simp) hy1
     have HY1:=hide hy1
     clear hy1
     go_wp2_with fail
     refine hK.out _ _ hS1 (fun hSn=>?_)
     clear hK K
     try simp only[zqd,zqe,zqf]
     refine tka 4 31 ?_
     refine tka 5 32 ?_
     refine tka 6 33 ?_
     refine tka 7 34 ?_
     refine tka 8 35 ?_
     refine ska 9 36 ?_
     refine ska 10 37 ?_
     refine ska 11 38 ?_
     refine ska 12 39 ?_
     refine ska 13 40 ?_
     refine ska 14 41 ?_
     refine ska 15 42 ?_
     refine ska 16 43 ?_
     refine ska 17 44 ?_
     refine tka 18 45 ?_
     refine tka 19 46 ?_
     refine wpAnyH_done (by kernel_rfl) ?_ _
     have hgo:=HLAST.out _ HY1.out
     have hst:=HStep.out
     have hat:okAt V es 0=true:=by
      rw[okAt,HEi.out]
      show (fitsB e1 e2 e3 V && true)=true
      rw[hf];rfl
     rw[hat,Bool.true_and] at hst
     clear hS0 hSn
     go_wp2
     go_roundw
     case rel=>exact⟨1,by omega,by go_num,hide (by rw[hst]),hgo⟩
     case measure=>simp[intOf];omega
    obtain⟨k,rfl⟩:∃k,i=k+1:=⟨i-1,by omega⟩
    have hpos:(0:Int)<((k+1:Nat):Int):=by omega
    have hsub:((k+1:Nat):Int)-1=(k:Int):=by omega
    have hk0:(0:Int)≤(k:Int):=by omega
    have hk1:(k:Int)<(L:Int):=by omega
    have hwk:IntKind.i64.wrap (k:Int)=(k:Int):=IntWalk.i64_in _ (by omega)
    obtain⟨pe,hpe⟩:∃pe,es[k]?=some pe:=⟨_,List.getElem?_eq_getElem (by have:=HL.out;omega)⟩
    obtain⟨p1,p2,p3⟩:=pe
    obtain⟨b',off',hA',_,q0,q1,q2,_,_⟩:=Eds.get HE.out hpe
    injection hA' with hA'
    injection hA' with hA1 hA2
    subst hA1 hA2
    dsimp only at q0 q1 q2
    have hkuv:=(HLAST.out _ (Below.refl _ _)).1
    have up0:u.cell? ⟨b,off+k*3,none⟩=some (.int .i64 p1):=(hkuv ⟨b,off+k*3,none⟩ hbl).trans q0
    have up1:u.cell? ⟨b,off+k*3+1,none⟩=some (.int .i64 p2):=(hkuv ⟨b,off+k*3+1,none⟩ hbl).trans q1
    have up2:u.cell? ⟨b,off+k*3+2,none⟩=some (.int .i64 p3):=(hkuv ⟨b,off+k*3+2,none⟩ hbl).trans q2
    have hat:okAt V es (k+1)=decide (orderOf (p1,p2,p3) (e1,e2,e3)<0):=by
     rw[okAt,HEi.out]
     show (fitsB e1 e2 e3 V && _)=_
     rw[hf,if_neg (by omega),Nat.add_sub_cancel,hpe];rfl
    have HAt:=hide hat
    have HPe:=hide hpe
    clear hkuv q0 q1 q2 hat hpe
    refine wp_region_held_drew (S:=Kept u) (by kernel_rfl) (Kept.drew u) (fun hS0=>?_)
    refine tka 0 27 ?_
    refine tka 1 28 ?_
    refine tka 2 29 ?_
    refine ck 3 30 fun K hK=>?_
    go_simp
    refine (fits_any _ e1 e2 e3 V).mono ?_
    rintro e y1 ⟨rfl,hy1⟩
    rw[hf]
    have hS1:Kept u y1:=hS0.below (by simp) hy1
    have HY1:=hide hy1
    clear hy1
    go_wp2_with fail
    refine hK.out _ _ hS1 (fun hSn=>?_)
    clear hK K
    try simp only[zqd,zqe,zqf]
    refine tka 4 31 ?_
    refine tka 5 32 ?_
    refine tka 6 33 ?_
    refine tka 7 34 ?_
    refine tka 8 35 ?_
    refine tka 9 36 ?_
    refine tka 10 37 ?_
    refine tka 11 38 ?_
    refine tka 12 39 ?_
    refine tka 13 40 ?_
    refine tka 14 41 ?_
    refine tka 15 42 ?_
    refine ck 16 43 fun K hK=>?_
    go_simp
    refine (order_any _ p1 p2 p3 e1 e2 e3).mono ?_
    rintro e y2 ⟨rfl,hy2⟩
    have hS2:Kept u y2:=hS1.below (by have:=HY1.out.size;simp at this;omega) hy2
    have HY2:=hide (HY1.out.trans (hy2.mono HY1.out.size))
    clear hy2
    go_wp2_with fail
    refine hK.out _ _ hS2 (fun hSn=>?_)
    clear hK K
    try simp only[zqd,zqe,zqf]
    refine tka 17 44 ?_
    refine tka 18 45 ?_
    refine tka 19 46 ?_
    refine wpAnyH_done (by kernel_rfl) ?_ _
    have hgo:=HLAST.out _ HY2.out
    have hst:=HStep.out
    rw[HAt.out] at hst
    clear hS0 hSn
    by_cases hord:orderOf (p1,p2,p3) (e1,e2,e3)<0
    ·have hord':¬0≤orderOf (p1,p2,p3) (e1,e2,e3):=by omega
     rw[decide_eq_true hord,Bool.true_and] at hst
     have HST:=hide hst
     clear hst
     go_wp2
     go_roundw
     case rel=>exact⟨k+1+1,by omega,by go_num,hide (by rw[hok.out,HST.out]),hgo⟩
     case measure=>simp[intOf];omega
    have hord':0≤orderOf (p1,p2,p3) (e1,e2,e3):=by omega
    rw[decide_eq_false hord,Bool.false_and] at hst
    have HST:=hide hst
    clear hst
    go_wp2
    go_ret
    rw[HF.out,hok.out,HST.out]
    exact⟨rfl,hgo.2.1⟩
   have hf':fitsB e1 e2 e3 V=false:=by simpa using hf
   refine wp_region_held_drew (S:=Kept u) (by kernel_rfl) (Kept.drew u) (fun hS0=>?_)
   refine tka 0 27 ?_
   refine tka 1 28 ?_
   refine tka 2 29 ?_
   refine ck 3 30 fun K hK=>?_
   go_simp
   refine (fits_any _ e1 e2 e3 V).mono ?_
   rintro e y1 ⟨rfl,hy1⟩
   rw[hf']
   have hS1:Kept u y1:=hS0.below (by simp) hy1
   have HY1:=hide hy1
   clear hy1
   go_wp2_with fail
   refine hK.out _ _ hS1 (fun hSn=>?_)
   clear hK K
   try simp only[zqd,zqe,zqf]
   refine tka 4 31 ?_
   refine tka 5 32 ?_
   refine ska 6 33 ?_
   refine ska 7 34 ?_
   refine ska 8 35 ?_
   refine ska 9 36 ?_
   refine ska 10 37 ?_
   refine ska 11 38 ?_
   refine ska 12 39 ?_
   refine ska 13 40 ?_
   refine ska 14 41 ?_
   refine ska 15 42 ?_
   refine ska 16 43 ?_
   refine ska 17 44 ?_
   refine ska 18 45 ?_
   refine tka 19 46 ?_
   refine wpAnyH_done (by kernel_rfl) ?_ _
   have hgo:=HLAST.out _ HY1.out
   have hst:=HStep.out
   have hat:okAt V es i=false:=by
    rw[okAt,HEi.out]
    show (fitsB e1 e2 e3 V && _)=false
    rw[hf'];rfl
   rw[hat,Bool.false_and] at hst
   have HST:=hide hst
   clear hst hS0 hSn
   go_wp2
   go_ret
   rw[HF.out,hok.out,HST.out]
   exact⟨rfl,hgo.2.1⟩
  obtain rfl:i=L:=by omega
  have ht:okFrom V es 0=true:=by rw[hok.out,←HL.out];exact okFrom_end _ _
  go_wp2
  go_ret
  rw[HF.out,if_pos ht]
  exact⟨rfl,hbw⟩
end Go.Proofs.YtpojjmbalgmcoaaGreat

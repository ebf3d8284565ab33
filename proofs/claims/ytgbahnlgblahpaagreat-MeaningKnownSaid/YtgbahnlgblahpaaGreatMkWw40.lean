/- Lemmas: Prf, Mlt, Mpk, Mdq. -/
import Derived.WalkSpells
import Derived.WalkMore
import Derived.IntWalk
import Derived.Lib.Hide
import Derived.Test.YtgbahnlgblahpaaGreatMkWw15
import Derived.Test.YtgbahnlgblahpaaGreatMkWw29
set_option linter.unusedVariables false
set_option linter.unusedSimpArgs false
set_option maxRecDepth 100000
set_option maxHeartbeats 16000000
namespace Go.Proofs.YtgbahnlgblahpaaGreat
open Go.RowKit
theorem rfits_any (w:World) (f t x V:Int):Calls Tryz.prog 43 #[.agg #[.int .i64 f,.int .i64 t,.int .i64 x],.int .i64 V] w fun e w'=>e = .returned (.bool (fitsB f t x V))∧Below w.heap.size w w':=by
 have hb:Below w.heap.size w (w.alloc (.cells #[.int .i64 f,.int .i64 t,.int .i64 x] 46)):=(Below.refl _ _).alloc (Nat.le_refl _) _
 have HB:=hide hb
 clear hb
 go_enter Tryz.func43,Tryz.ntmps43
 go_wp2
 all_goals
  go_ret
  exact⟨ret_bool (by unfold fitsB;first | rfl | (rw[Bool.eq_iff_iff];simp only[Bool.and_eq_true,decide_eq_true_eq,Bool.false_eq_true,eq_self_iff_true,true_iff,false_iff];omega)),HB.out⟩
theorem order_neg (a1 a2 a3 b1 b2 b3:Int):(orderOf (a1,a2,a3) (b1,b2,b3)<0)↔(a1<b1∨(a1=b1∧a2<b2)):=by
 unfold orderOf orOf cmpOf
 dsimp only
 (repeat' split) <;> omega
theorem ahead_any (w:World) (a1 a2 a3 b1 b2 b3:Int):Calls Tryz.prog 44 #[.agg #[.int .i64 a1,.int .i64 a2,.int .i64 a3],.agg #[.int .i64 b1,.int .i64 b2,.int .i64 b3]] w fun e w'=>e = .returned (.bool (decide (orderOf (a1,a2,a3) (b1,b2,b3)<0)))∧Below w.heap.size w w':=by
 have hb:Below w.heap.size w ((w.alloc (.cells #[.int .i64 a1,.int .i64 a2,.int .i64 a3] 46)).alloc (.cells #[.int .i64 b1,.int .i64 b2,.int .i64 b3] 46)):=((Below.refl _ _).alloc (Nat.le_refl _) _).alloc (by simp) _
 have HB:=hide hb
 have HO:=hide (order_neg a1 a2 a3 b1 b2 b3)
 clear hb
 by_cases h1:a1<b1
 ·have HF:=hide (decide_eq_true (HO.out.2 (.inl h1)))
  go_enter Tryz.func44,Tryz.ntmps44
  go_wp2
  go_ret
  exact⟨ret_bool (by rw[HF.out]),HB.out⟩
 by_cases h2:a1=b1
 ·subst h2
  by_cases h3:a2<b2
  ·have HF:=hide (decide_eq_true (HO.out.2 (.inr ⟨rfl,h3⟩)))
   go_enter Tryz.func44,Tryz.ntmps44
   go_wp2
   go_ret
   exact⟨ret_bool (by rw[HF.out]),HB.out⟩
  have HF:=hide (decide_eq_false (fun h=>by have h9:=HO.out.1 h;omega))
  go_enter Tryz.func44,Tryz.ntmps44
  go_wp2
  go_ret
  exact⟨ret_bool (by rw[HF.out]),HB.out⟩
 have HF:=hide (decide_eq_false (fun h=>by have h9:=HO.out.1 h;omega))
 go_enter Tryz.func44,Tryz.ntmps44
 go_wp2
 go_ret
 exact⟨ret_bool (by rw[HF.out]),HB.out⟩
theorem rcheck_any (w:World) (V:Int) (A:Option Addr) (es:List Ed) (L c:Nat) (hL:es.length=L) (hE:Eds w w.heap.size A es) (hc:L≤9223372036854775807) :
  Calls Tryz.prog 24 #[.agg #[.int .i64 V,.slice A L c]] w fun e w'=>e = .returned (.int .i64 (checkF V es))∧Below w.heap.size w w':=by
 obtain⟨v,hv⟩:∃v,w.alloc (.cells #[.int .i64 V,.slice A L c] 24)=v:=⟨_,rfl⟩
 have hz:v.heap.size=w.heap.size+1:=by rw[←hv];simp
 have hb:Below w.heap.size w v:=by rw[←hv];exact (Below.refl _ _).alloc (Nat.le_refl _) _
 have cg:v.heap[w.heap.size]?=some (.cells #[.int .i64 V,.slice A L c] 24):=by rw[←hv];exact heap_alloc_last w _
 obtain⟨cg0,cg1⟩:=zr2 cg
 have hlg:w.heap.size<v.heap.size:=by omega
 have HE:=hide (Els.more (hE.below hb (Nat.le_refl _)) (Nat.le_of_lt hlg))
 have HV:=hide hv
 have HB:=hide hb
 have HL:=hide hL
 have HZ:=hide hz
 clear hv hb hz cg hE hL
 by_cases h1:V > 512∨L > 8192
 ·have hF:checkF V es=3:=by rw[checkF,HL.out,if_pos h1]
  have HF:=hide hF
  clear hF
  by_cases hV:512<V
  ·go_enter Tryz.func24,Tryz.ntmps24
   go_wp2
   go_ret
   rw[HV.out,HF.out]
   exact⟨rfl,HB.out⟩
  have hV':¬512<V:=by omega
  have hL':(8192:Int)<(L:Int):=by omega
  go_enter Tryz.func24,Tryz.ntmps24
  go_wp2
  go_ret
  rw[HV.out,HF.out]
  exact⟨rfl,HB.out⟩
 have hV:¬512<V:=by omega
 have hL':¬(8192:Int)<(L:Int):=by omega
 have hF:checkF V es=if V<1 then 40 else if okFrom V es 0=true then 0 else 40:=by rw[checkF,HL.out,if_neg h1]
 have HF:=hide hF
 clear hF h1
 have hL2:L≤8192:=by omega
 go_enter Tryz.func24,Tryz.ntmps24
 go_wp2
 rw[HV.out]
 go_loopw [3] (fun vi wr=>∃i:Nat,i≤L∧vi = .int .i64 i∧Hid (okFrom V es 0=okFrom V es i)∧Kept v wr∧Below w.heap.size w wr∧v.heap.size≤wr.heap.size) (fun vi _=>L-(intOf vi).toNat)
 case atStart=>exact⟨0,by omega,rfl,hide rfl,Kept.refl v,HB.out,Nat.le_refl _⟩
 case round=>
  obtain⟨i,hi,rfl,hok,hk,hbw,hsz⟩:=hrel
  have hs:=hbw.size
  by_cases hlt:i<L
  ·obtain⟨e,he⟩:∃e,es[i]?=some e:=⟨_,List.getElem?_eq_getElem (by rw[HL.out];exact hlt)⟩
   obtain⟨b,off,rfl,hbl,c0,c1,c2,_,_⟩:=Eds.get HE.out he
   have hI0:(0:Int)≤(i:Int):=by omega
   have hI1:(i:Int)<(L:Int):=by omega
   have HStep:=hide (okFrom_step V es i (by rw[HL.out];exact hlt))
   have HEi:=hide he
   clear he
   obtain⟨e1,e2,e3⟩:=e
   dsimp only at c0 c1 c2
   have hlast:∀w',Below wr.drew.heap.size wr.drew w'→Kept v w'∧Below w.heap.size w w'∧v.heap.size≤w'.heap.size:=fun w' h=>⟨hk.below hsz (below_undrew h),hbw.drew.trans (h.mono hbw.drew.size),by have:=h.size;simp at this;omega⟩
   have HLAST:=hide hlast
   clear hlast
   by_cases hf:fitsB e1 e2 e3 V=true
   ·rcases Nat.eq_zero_or_pos i with hi0 | hi0
    ·subst hi0
     have hat:okAt V es 0=true:=by
      rw[okAt,HEi.out]
      show (fitsB e1 e2 e3 V && true)=true
      rw[hf];rfl
     have HST:Hid (okFrom V es 0=okFrom V es 1):=hide (by rw[HStep.out,hat,Bool.true_and])
     clear hat
     rw[show ((0:Nat):Int)=0 from rfl]
     simp only[Nat.zero_mul,Nat.add_zero] at c0 c1 c2
     go_wp2
     refine wp_region_held_drew (S:=Kept v) (by kernel_rfl) (fun p hp=>hk p hp) (fun hS0=>?_)
     refine tka 0 20 ?_
     refine tka 1 21 ?_
     refine tka 2 22 ?_
     refine tka 3 23 ?_
     refine tka 4 24 ?_
     refine tka 5 25 ?_
     refine tka 6 26 ?_
     refine ck 7 27 fun K hK=>?_
     go_simp
     refine (rfits_any _ e1 e2 e3 V).mono ?_
     rintro e y1 ⟨rfl,hy1⟩
     rw[hf]
     have hS1:Kept v y1:=hS0.below (by simp;omega) hy1
     have HY1:=hide hy1
     clear hy1
     go_wp2_with fail
     refine hK.out _ _ hS1 (fun hSn=>?_)
     clear hK K
     try simp only[zqd,zqe,zqf]
     refine tka 8 28 ?_
     refine tka 9 29 ?_
     refine tka 10 30 ?_
     refine tka 11 31 ?_
     refine tka 12 32 ?_
     refine ska 13 33 ?_
     refine ska 14 34 ?_
     refine ska 15 35 ?_
     refine ska 16 36 ?_
     refine ska 17 37 ?_
     refine ska 18 38 ?_
     refine ska 19 39 ?_
     refine ska 20 40 ?_
     refine ska 21 41 ?_
     refine ska 22 42 ?_
     refine ska 23 43 ?_
     refine ska 24 44 ?_
     refine ska 25 45 ?_
     refine tka 26 46 ?_
     refine tka 27 47 ?_
     refine wpAnyH_done (by kernel_rfl) ?_ _
     have hgo:=HLAST.out _ HY1.out
     clear hS0 hSn
     go_wp2
     go_roundw
     case rel=>exact⟨1,by omega,by go_num,HST,hgo⟩
     case measure=>simp[intOf];omega
    obtain⟨k,rfl⟩:∃k,i=k+1:=⟨i-1,by omega⟩
    have hpos:(0:Int)<((k+1:Nat):Int):=by omega
    have hsub:((k+1:Nat):Int)-1=(k:Int):=by omega
    have hk0:(0:Int)≤(k:Int):=by omega
    have hk9:(0:Int)≤(k:Int)+1:=by omega
    have hk1:(k:Int)<(L:Int):=by omega
    have hwk:IntKind.i64.wrap (k:Int)=(k:Int):=IntWalk.i64_in _ (by omega)
    obtain⟨pe,hpe⟩:∃pe,es[k]?=some pe:=⟨_,List.getElem?_eq_getElem (by have:=HL.out;omega)⟩
    obtain⟨p1,p2,p3⟩:=pe
    obtain⟨b',off',hA',_,q0,q1,q2,_,_⟩:=Eds.get HE.out hpe
    injection hA' with hA'
    injection hA' with hA1 hA2
    subst hA1 hA2
    dsimp only at q0 q1 q2
    have hat:okAt V es (k+1)=decide (orderOf (p1,p2,p3) (e1,e2,e3)<0):=by
     rw[okAt,HEi.out]
     show (fitsB e1 e2 e3 V && _)=_
     rw[hf,if_neg (by omega),Nat.add_sub_cancel,hpe];rfl
    have HAt:=hide hat
    have HPe:=hide hpe
    clear hat hpe
    by_cases hord:orderOf (p1,p2,p3) (e1,e2,e3)<0
    ·have HST:Hid (okFrom V es 0=okFrom V es (k+1+1)):=hide (by rw[hok.out,HStep.out,HAt.out,decide_eq_true hord,Bool.true_and])
     have HD:=hide (decide_eq_true hord)
     clear hord
     go_wp2
     refine wp_region_held_drew (S:=Kept v) (by kernel_rfl) (fun p hp=>hk p hp) (fun hS0=>?_)
     refine tka 0 20 ?_
     refine tka 1 21 ?_
     refine tka 2 22 ?_
     refine tka 3 23 ?_
     refine tka 4 24 ?_
     refine tka 5 25 ?_
     refine tka 6 26 ?_
     refine ck 7 27 fun K hK=>?_
     go_simp
     refine (rfits_any _ e1 e2 e3 V).mono ?_
     rintro e y1 ⟨rfl,hy1⟩
     rw[hf]
     have hS1:Kept v y1:=hS0.below (by simp;omega) hy1
     have HY1:=hide hy1
     clear hy1
     go_wp2_with fail
     refine hK.out _ _ hS1 (fun hSn=>?_)
     clear hK K
     try simp only[zqd,zqe,zqf]
     refine tka 8 28 ?_
     refine tka 9 29 ?_
     refine tka 10 30 ?_
     refine tka 11 31 ?_
     refine tka 12 32 ?_
     refine tka 13 33 ?_
     refine tka 14 34 ?_
     refine tka 15 35 ?_
     refine tka 16 36 ?_
     refine tka 17 37 ?_
     refine tka 18 38 ?_
     refine tka 19 39 ?_
     refine tka 20 40 ?_
     refine tka 21 41 ?_
     refine tka 22 42 ?_
     refine tka 23 43 ?_
     refine ck 24 44 fun K hK=>?_
     go_simp
     refine (ahead_any _ p1 p2 p3 e1 e2 e3).mono ?_
     rintro e y2 ⟨rfl,hy2⟩
     rw[HD.out]
     have hS2:Kept v y2:=hS1.below (by have:=HY1.out.size;simp at this;omega) hy2
     have HY2:=hide (HY1.out.trans (hy2.mono HY1.out.size))
     clear hy2
     go_wp2_with fail
     refine hK.out _ _ hS2 (fun hSn=>?_)
     clear hK K
     try simp only[zqd,zqe,zqf]
     refine tka 25 45 ?_
     refine tka 26 46 ?_
     refine tka 27 47 ?_
     refine wpAnyH_done (by kernel_rfl) ?_ _
     have hgo:=HLAST.out _ HY2.out
     clear hS0 hSn
     go_wp2
     go_roundw
     case rel=>exact⟨k+1+1,by omega,by go_num,HST,hgo⟩
     case measure=>simp[intOf];omega
    have HST:Hid (okFrom V es 0=false):=hide (by rw[hok.out,HStep.out,HAt.out,decide_eq_false hord,Bool.false_and])
    have HD:=hide (decide_eq_false hord)
    clear hord
    go_wp2
    refine wp_region_held_drew (S:=Kept v) (by kernel_rfl) (fun p hp=>hk p hp) (fun hS0=>?_)
    refine tka 0 20 ?_
    refine tka 1 21 ?_
    refine tka 2 22 ?_
    refine tka 3 23 ?_
    refine tka 4 24 ?_
    refine tka 5 25 ?_
    refine tka 6 26 ?_
    refine ck 7 27 fun K hK=>?_
    go_simp
    refine (rfits_any _ e1 e2 e3 V).mono ?_
    rintro e y1 ⟨rfl,hy1⟩
    rw[hf]
    have hS1:Kept v y1:=hS0.below (by simp;omega) hy1
    have HY1:=hide hy1
    clear hy1
    go_wp2_with fail
    refine hK.out _ _ hS1 (fun hSn=>?_)
    clear hK K
    try simp only[zqd,zqe,zqf]
    refine tka 8 28 ?_
    refine tka 9 29 ?_
    refine tka 10 30 ?_
    refine tka 11 31 ?_
    refine tka 12 32 ?_
    refine tka 13 33 ?_
    refine tka 14 34 ?_
    refine tka 15 35 ?_
    refine tka 16 36 ?_
    refine tka 17 37 ?_
    refine tka 18 38 ?_
    refine tka 19 39 ?_
    refine tka 20 40 ?_
    refine tka 21 41 ?_
    refine tka 22 42 ?_
    refine tka 23 43 ?_
    refine ck 24 44 fun K hK=>?_
    go_simp
    refine (ahead_any _ p1 p2 p3 e1 e2 e3).mono ?_
    rintro e y2 ⟨rfl,hy2⟩
    rw[HD.out]
    have hS2:Kept v y2:=hS1.below (by have:=HY1.out.size;simp at this;omega) hy2
    have HY2:=hide (HY1.out.trans (hy2.mono HY1.out.size))
    clear hy2
    go_wp2_with fail
    refine hK.out _ _ hS2 (fun hSn=>?_)
    clear hK K
    try simp only[zqd,zqe,zqf]
    refine tka 25 45 ?_
    refine tka 26 46 ?_
    refine tka 27 47 ?_
    refine wpAnyH_done (by kernel_rfl) ?_ _
    have hgo:=HLAST.out _ HY2.out
    clear hS0 hSn
    go_wp2
    go_ret
    have hV1:(if V<1 then (40:Int) else if okFrom V es 0=true then 0 else 40)=40:=by rw[HST.out];split <;> rfl
    rw[HF.out,hV1]
    exact⟨rfl,hgo.2.1⟩
   have hf':fitsB e1 e2 e3 V=false:=by simpa using hf
   have HST:Hid (okFrom V es 0=false):=hide (by
    rw[hok.out,HStep.out,okAt,HEi.out]
    show ((fitsB e1 e2 e3 V && _) && _)=false
    rw[hf'];rfl)
   go_wp2
   refine wp_region_held_drew (S:=Kept v) (by kernel_rfl) (fun p hp=>hk p hp) (fun hS0=>?_)
   refine tka 0 20 ?_
   refine tka 1 21 ?_
   refine tka 2 22 ?_
   refine tka 3 23 ?_
   refine tka 4 24 ?_
   refine tka 5 25 ?_
   refine tka 6 26 ?_
   refine ck 7 27 fun K hK=>?_
   go_simp
   refine (rfits_any _ e1 e2 e3 V).mono ?_
   rintro e y1 ⟨rfl,hy1⟩
   rw[hf']
   have hS1:Kept v y1:=hS0.below (by simp;omega) hy1
   have HY1:=hide hy1
   clear hy1
   go_wp2_with fail
   refine hK.out _ _ hS1 (fun hSn=>?_)
   clear hK K
   try simp only[zqd,zqe,zqf]
   refine tka 8 28 ?_
   refine tka 9 29 ?_
   refine ska 10 30 ?_
   refine ska 11 31 ?_
   refine ska 12 32 ?_
   refine ska 13 33 ?_
   refine ska 14 34 ?_
   refine ska 15 35 ?_
   refine ska 16 36 ?_
   refine ska 17 37 ?_
   refine ska 18 38 ?_
   refine ska 19 39 ?_
   refine ska 20 40 ?_
   refine ska 21 41 ?_
   refine ska 22 42 ?_
   refine ska 23 43 ?_
   refine ska 24 44 ?_
   refine ska 25 45 ?_
   refine ska 26 46 ?_
   refine tka 27 47 ?_
   refine wpAnyH_done (by kernel_rfl) ?_ _
   have hgo:=HLAST.out _ HY1.out
   clear hS0 hSn
   go_wp2
   go_ret
   have hV1:(if V<1 then (40:Int) else if okFrom V es 0=true then 0 else 40)=40:=by rw[HST.out];split <;> rfl
   rw[HF.out,hV1]
   exact⟨rfl,hgo.2.1⟩
  obtain rfl:i=L:=by omega
  have ht:okFrom V es 0=true:=by rw[hok.out,←HL.out];exact okFrom_end _ _
  have kg0:=(hk ⟨w.heap.size,0,none⟩ hlg).trans cg0
  by_cases h2:V<1
  ·have HF2:=hide (HF.out.trans (if_pos h2))
   go_wp2
   go_ret
   rw[HF2.out]
   exact⟨rfl,hbw⟩
  have HF2:=hide (HF.out.trans ((if_neg h2).trans (if_pos ht)))
  clear ht
  go_wp2
  go_ret
  rw[HF2.out]
  exact⟨rfl,hbw⟩
def lightB (V:Int) (L:Nat) (es:List Ed):Bool:=decide ((L:Int)≤100) && (decide (V≤16) || decide (checkF V es≠0))
theorem lt13_any (w:World) (V:Int) (A:Option Addr) (es:List Ed) (L c:Nat) (hL:es.length=L) (hE:Eds w w.heap.size A es) (hc:L≤9223372036854775807) :
  Calls Tryz.prog 7 #[.agg #[.int .i64 V,.slice A L c]] w fun e w'=>e = .returned (.bool (lightB V L es))∧Below w.heap.size w w':=by
 obtain⟨v,hv⟩:∃v,w.alloc (.cells #[.int .i64 V,.slice A L c] 24)=v:=⟨_,rfl⟩
 have hz:v.heap.size=w.heap.size+1:=by rw[←hv];simp
 have hb:Below w.heap.size w v:=by rw[←hv];exact (Below.refl _ _).alloc (Nat.le_refl _) _
 have cg:v.heap[w.heap.size]?=some (.cells #[.int .i64 V,.slice A L c] 24):=by rw[←hv];exact heap_alloc_last w _
 obtain⟨c0,c1⟩:=zr2 cg
 have HE:Hid (Eds v v.heap.size A es):=hide ((hE.below hb (Nat.le_refl _)).more hb.size)
 have HV:=hide hv
 have HB:=hide hb
 have HL:=hide hL
 have HG:=hide cg
 have hlv:w.heap.size<v.heap.size:=by omega
 clear hv hb hz cg hE hL
 go_enter Tryz.func7,Tryz.ntmps7
 go_wp2_with fail
 rw[HV.out]
 go_wp2_with fail
 refine (light_any v V A L c 100).mono ?_
 rintro e y ⟨rfl,hy⟩
 have HBy:=hide (HB.out.trans (hy.mono HB.out.size))
 have HGy:=(hy.block _ hlv).trans HG.out
 have HEy:Hid (Eds y y.heap.size A es):=hide ((Eds.below HE.out hy (Nat.le_refl _)).more hy.size)
 have c0':y.cell? ⟨w.heap.size,0,none⟩=some (.int .i64 V):=cell_of_row _ _ 0 _ _ _ HGy
 have c1':y.cell? ⟨w.heap.size,1,none⟩=some (.slice A L c):=cell_of_row _ _ 1 _ _ _ HGy
 clear hy c0 c1 HGy
 by_cases h1:(L:Int)≤100
 ·by_cases h2:V≤16
  ·have HF:Hid (lightB V L es=true):=hide (by unfold lightB;simp[h2];omega)
   rw[decide_eq_true h1]
   go_wp2
   go_ret
   exact⟨ret_b (by rw[HF.out]),HBy.out⟩
  have HF:Hid (lightB V L es=decide (checkF V es≠0)):=hide (by unfold lightB;rw[decide_eq_true h1,decide_eq_false h2];simp)
  rw[decide_eq_true h1]
  have h3:decide (V≤16)=false:=decide_eq_false h2
  go_wp2_with fail
  refine (rcheck_any y V A es L c HL.out HEy.out hc).mono ?_
  rintro e z ⟨rfl,hz⟩
  have HBz:=hide (HBy.out.trans (hz.mono HBy.out.size))
  clear hz c0' c1'
  obtain⟨q,hq⟩:∃q,checkF V es=q:=⟨_,rfl⟩
  rw[hq] at HF ⊢
  clear hq
  by_cases h5:q=0
  ·subst h5
   go_wp2
   go_ret
   exact⟨ret_b (by rw[HF.out];simp),HBz.out⟩
  go_wp2
  go_ret
  exact⟨ret_b (by rw[HF.out];simp[h5]),HBz.out⟩
 have HF:Hid (lightB V L es=false):=hide (by unfold lightB;rw[decide_eq_false h1];simp)
 rw[decide_eq_false h1]
 go_wp2
 go_ret
 exact⟨ret_b (by rw[HF.out]),HBy.out⟩
def pickOf (i n:Int):Int:=if n≤0 then 0 else (i.tmod n+n).tmod n
theorem pick_rng (i n:Int) (h:0<n):0≤pickOf i n∧pickOf i n<n:=by
 unfold pickOf
 rw[if_neg (by omega)]
 have h1:=Int.tmod_lt_of_pos i h
 have h2:-n<i.tmod n:=by
  have:=Int.tmod_lt_of_pos (-i) h
  rw[Int.neg_tmod] at this
  omega
 have h3:=Int.tmod_lt_of_pos (i.tmod n+n) h
 have h4:=Int.tmod_nonneg (b:=n) (a:=i.tmod n+n) (by omega)
 omega
theorem ret_nq {x y:Int} (h:x=y):Ending.returned (.int .i64 x) = .returned (.int .i64 y):=by rw[h]
theorem pick_any (w:World) (i n:Int) (hi1:-9223372036854775808≤i) (hi2:i≤9223372036854775807) (hn:0<n) (hn2:n≤4611686018427387904):Calls Tryz.prog 15 #[.int .i64 i,.int .i64 n] w fun e w'=>e = .returned (.int .i64 (pickOf i n))∧w'=w:=by
 have hp:pickOf i n=(i.tmod n+n).tmod n:=by unfold pickOf;rw[if_neg (by omega)]
 have HP:=hide hp
 have h1:=Int.tmod_lt_of_pos i hn
 have h2:-n<i.tmod n:=by
  have:=Int.tmod_lt_of_pos (-i) hn
  rw[Int.neg_tmod] at this
  omega
 have hpr:=pick_rng i n hn
 rw[hp] at hpr
 clear hp
 have w1:IntKind.i64.wrap (i.tmod n)=i.tmod n:=IntWalk.i64_in _ (by omega)
 have w2:IntKind.i64.wrap (i.tmod n+n)=i.tmod n+n:=IntWalk.i64_in _ (by omega)
 have w3:IntKind.i64.wrap ((i.tmod n+n).tmod n)=(i.tmod n+n).tmod n:=IntWalk.i64_in _ (by omega)
 have d0:¬n=0:=by omega
 have hnn:0≤i.tmod n+n:=by omega
 go_enter Tryz.func15,Tryz.ntmps15
 go_wp2
 go_ret
 exact⟨ret_nq (by rw[HP.out,Int.tmod_eq_emod_of_nonneg hnn]),rfl⟩
end Go.Proofs.YtgbahnlgblahpaaGreat
namespace Go.Proofs.YtgbahnlgblahpaaGreat
theorem bat_put (r:List Bool) (j x:Nat) (hj:j<r.length):bat (r.set j true) (x:Int)=if x=j then true else bat r (x:Int):=by
 unfold bat
 rw[Int.toNat_natCast,List.getElem?_set]
 by_cases h:j=x
 ·subst h;simp[hj]
 rw[if_neg h,if_neg (fun g=>h g.symm)]
structure DR (es:List Ed) (M:Nat) (s:Int) (l:List Int) (r:List Bool) (rest:List Ed) (m:Int):Prop where
 good:Good M s l
 low:∀F,Feas es M s F→LeV M F l
 len:r.length=M
 dn:∀u:Nat,u<M→bat r (u:Int)=true→at_ l (u:Int)≤m
 nd:∀u:Nat,u<M→bat r (u:Int)=false→m≤at_ l (u:Int)
 rel:∀e∈es,bat r e.1=true→e∈rest∨at_ l e.2.1≤dadd (at_ l e.1) e.2.2
def Nr (l:List Int) (r:List Bool) (k:Nat) (near:Int):Prop:=(near=-1∧∀u:Nat,u<k→bat r (u:Int)=true)∨∃j:Nat,near=(j:Int)∧j<k∧bat r (j:Int)=false∧∀u:Nat,u<k→bat r (u:Int)=false→at_ l (j:Int)≤at_ l (u:Int)
def nf (r:List Bool):Nat:=r.countP (fun b=>!b)
section
variable {es:List Ed} {M:Nat} {s:Int} {l:List Int} {r:List Bool} {rest:List Ed} {m:Int}
theorem Nr.zero:Nr l r 0 (-1):=.inl ⟨rfl,fun u hu=>absurd hu (Nat.not_lt_zero _)⟩
theorem Nr.skip {k:Nat} {near:Int} (h:Nr l r k near) (hk:bat r (k:Int)=true):Nr l r (k+1) near:=by
 rcases h with ⟨h1,h2⟩ | ⟨j,h1,h2,h3,h4⟩
 ·refine .inl ⟨h1,fun u hu=>?_⟩
  by_cases e:u=k
  ·subst e;exact hk
  exact h2 u (by omega)
 refine .inr ⟨j,h1,by omega,h3,fun u hu hb=>?_⟩
 by_cases e:u=k
 ·subst e;rw[hk] at hb;cases hb
 exact h4 u (by omega) hb
theorem Nr.stay {k j:Nat} (h:Nr l r k (j:Int)) (hk:¬at_ l (k:Int)<at_ l (j:Int)):Nr l r (k+1) (j:Int):=by
 rcases h with ⟨h1,h2⟩ | ⟨j',h1,h2,h3,h4⟩
 ·omega
 obtain rfl:j=j':=by omega
 refine .inr ⟨j,rfl,by omega,h3,fun u hu hb=>?_⟩
 by_cases e:u=k
 ·subst e;omega
 exact h4 u (by omega) hb
theorem Nr.take {k:Nat} {near:Int} (h:Nr l r k near) (hk:bat r (k:Int)=false) (hn:near<0∨∃j:Nat,near=(j:Int)∧at_ l (k:Int)<at_ l (j:Int)):Nr l r (k+1) (k:Int):=by
 refine .inr ⟨k,rfl,by omega,hk,fun u hu hb=>?_⟩
 by_cases e:u=k
 ·subst e;exact Int.le_refl _
 rcases h with ⟨h1,h2⟩ | ⟨j',h1,h2,h3,h4⟩
 ·rw[h2 u (by omega)] at hb;cases hb
 rcases hn with h5 | ⟨j,h5,h6⟩
 ·omega
 obtain rfl:j=j':=by omega
 have:=h4 u (by omega) hb
 omega
theorem nf_set {j:Nat} (hj:j<r.length) (hb:bat r (j:Int)=false):nf (r.set j true)+1=nf r:=by
 have hget:r[j]=false:=by unfold bat at hb;rw[Int.toNat_natCast,List.getElem?_eq_getElem hj] at hb;exact hb
 have hpos:0<nf r:=List.countP_pos_iff.2 ⟨r[j],List.getElem_mem hj,by rw[hget];rfl⟩
 unfold nf at *
 rw[List.countP_set hj,hget]
 simp only[Bool.not_false,Bool.not_true,if_true]
 rw[if_neg (by decide)]
 omega
theorem nf_all (h:nf r=0) {u:Nat} (hu:u<r.length):bat r (u:Int)=true:=by
 unfold nf at h
 have:=List.countP_eq_zero.1 h r[u] (List.getElem_mem hu)
 unfold bat
 rw[Int.toNat_natCast,List.getElem?_eq_getElem hu]
 simpa using this
theorem nf_some (h:0<nf r):∃u:Nat,u<r.length∧bat r (u:Int)=false:=by
 obtain⟨b,hb,hf⟩:=List.countP_pos_iff.1 h
 obtain⟨u,hu,rfl⟩:=List.getElem_of_mem hb
 refine⟨u,hu,?_⟩
 unfold bat
 rw[Int.toNat_natCast,List.getElem?_eq_getElem hu]
 simpa using hf
theorem nf_start (M:Nat):nf (List.replicate M false)=M:=by unfold nf;rw[List.countP_replicate];rfl
theorem bat_rep (M u:Nat):bat (List.replicate M false) (u:Int)=false:=by
 unfold bat
 rw[Int.toNat_natCast,List.getElem?_replicate]
 split <;> rfl
theorem DR.start (hw:Within es M) (h0:0≤s) (h1:s<M):DR es M s (start0 M s) (List.replicate M false) [] 0:=by
 have hs:=good_start hw h0 h1
 refine⟨hs,fun F hF=>feas_start hw h0 h1 hF,by simp,fun u _ h=>?_,fun u hu _=>(hs.rng u hu).1,fun e he h=>?_⟩
 ·rw[bat_rep] at h;cases h
 obtain⟨w1,_⟩:=hw e he
 rw[show e.1=((e.1.toNat:Nat):Int) by omega,bat_rep] at h;cases h
theorem DR.settle {j:Nat} (hw:Within es M) (h:DR es M s l r [] m) (hn:Nr l r M (j:Int)):j<M∧bat r (j:Int)=false∧DR es M s l (r.set j true) (es.filter (fun e=>e.1 == (j:Int))) (at_ l (j:Int)):=by
 rcases hn with ⟨h1,_⟩ | ⟨j',h1,h2,h3,h4⟩
 ·omega
 obtain rfl:j=j':=by omega
 have hb:∀x:Nat,bat (r.set j true) (x:Int)=if x=j then true else bat r (x:Int):=fun x=>bat_put r j x (by rw[h.len];exact h2)
 refine⟨h2,h3,h.good,h.low,by rw[List.length_set];exact h.len,fun u hu hd=>?_,fun u hu hd=>?_,fun e he hd=>?_⟩
 ·rw[hb] at hd
  by_cases e:u=j
  ·subst e;exact Int.le_refl _
  rw[if_neg e] at hd
  exact Int.le_trans (h.dn u hu hd) (h.nd j h2 h3)
 ·rw[hb] at hd
  by_cases e:u=j
  ·rw[if_pos e] at hd;cases hd
  rw[if_neg e] at hd;exact h4 u hu hd
 obtain⟨w1,w2,w3,w4⟩:=hw e he
 by_cases ej:e.1=(j:Int)
 ·exact .inl (List.mem_filter.2 ⟨he,by simp[ej]⟩)
 rw[show e.1=((e.1.toNat:Nat):Int) by omega,hb,if_neg (by omega),←show e.1=((e.1.toNat:Nat):Int) by omega] at hd
 exact .inr ((h.rel e he hd).resolve_left (by simp))
theorem DR.relax {e:Ed} (hw:Within es M) (h0:0≤s) (h1:s<M) (h:DR es M s l r (e :: rest) m) (hee:e∈es) (hm:at_ l e.1=m):DR es M s (step l e) r rest m∧(∀u:Nat,u<M→bat r (u:Int)=true→at_ (step l e) (u:Int)=at_ l (u:Int)):=by
 obtain⟨w1,w2,w3,w4⟩:=hw e hee
 have hmr:0≤m∧m≤inf:=by have:=h.good.rng e.1.toNat (by omega);rw[←at_lt w1,hm] at this;exact this
 have hdm:m≤dadd m e.2.2:=dadd_ge _ hmr.1 hmr.2
 have hst:∀i:Nat,i<M→at_ (step l e) (i:Int)=if (i:Int)=e.2.1 then min (at_ l e.2.1) (dadd m e.2.2) else at_ l (i:Int):=fun i hi=>by
  rw[step_at l e i (by rw[h.good.len];exact hi) w3,hm]
 have hkeep:∀u:Nat,u<M→bat r (u:Int)=true→at_ (step l e) (u:Int)=at_ l (u:Int):=fun u hu hd=>by
  rw[hst u hu]
  split
  ·rename_i q
   have:=h.dn u hu hd
   rw[←q];omega
  rfl
 refine⟨⟨good_step hw h0 h1 h.good hee,fun F hF=>le_step hw h0 h1 h.good.len hF (h.low F hF) hee,h.len,fun u hu hd=>by rw[hkeep u hu hd];exact h.dn u hu hd,fun u hu hd=>?_,fun f hf hd=>?_⟩,hkeep⟩
 ·have:=h.nd u hu hd
  rw[hst u hu]
  split
  ·rename_i q;rw[←q];omega
  exact this
 obtain⟨q1,q2,q3,q4⟩:=hw f hf
 have e1:at_ (step l e) f.1=at_ l f.1:=by rw[at_lt q1,at_lt (l:=l) q1];exact hkeep _ (by omega) (by rw[←show f.1=((f.1.toNat:Nat):Int) by omega];exact hd)
 have e2:at_ (step l e) f.2.1≤at_ l f.2.1:=by
  rw[at_lt q3,at_lt (l:=l) q3]
  exact step_le hw h0 h1 h.good.len hee _ (by omega)
 rw[e1]
 rcases h.rel f hf hd with h2 | h2
 ·rcases List.mem_cons.1 h2 with rfl | h2
  ·refine .inr ?_
   rw[hm,at_lt w3,hst _ (by omega),if_pos (by omega)]
   omega
  exact .inl h2
 exact .inr (by omega)
theorem DR.finish {V:Int} (hc:checkF V es=0) (h0:0≤s) (h1:s<V) (hM:V=(M:Int)) (h:DR es M s l r [] m) (hall:nf r=0):l=relaxedF V es s:=by
 subst hM
 have hw:=within_of hc
 rw[Int.toNat_natCast] at hw
 refine fin_relaxed hc h0 h1 (by rw[Int.toNat_natCast];exact h.good) ?_ (by rw[Int.toNat_natCast];exact h.low)
 rw[Int.toNat_natCast]
 refine⟨h.good.len,by rw[h.good.src];exact Int.le_refl _,fun i hi=>(h.good.rng i hi).2,fun e he=>?_⟩
 obtain⟨w1,w2,w3,w4⟩:=hw e he
 have hd:=nf_all hall (u:=e.1.toNat) (by rw[h.len];omega)
 rw[←show e.1=((e.1.toNat:Nat):Int) by omega] at hd
 exact (h.rel e he hd).resolve_left (by simp)
end
end Go.Proofs.YtgbahnlgblahpaaGreat

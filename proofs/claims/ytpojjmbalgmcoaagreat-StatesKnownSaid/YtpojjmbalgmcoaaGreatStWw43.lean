/- Lemmas: Vit. -/
import Derived.RangeFuncNested
import Derived.RangeFuncBound
import Derived.RangeFuncCalls
import Derived.RangeFuncLeaves
import Derived.RangeFuncBox
import Derived.Shelf.Abstract
import Derived.Shelf.RegionOpen
import Derived.WalkKit
import Derived.OwnWalkIn
import Derived.TacticsInMore
import Derived.LoopNIn
import Derived.LoopIn
import Derived.Maps.AppendAt
import Derived.Test.YtpojjmbalgmcoaaGreatStWw41
import Derived.Test.YtpojjmbalgmcoaaGreatStWw42
set_option linter.unusedVariables false
set_option linter.unusedSimpArgs false
set_option maxRecDepth 100000
set_option maxHeartbeats 16000000
namespace Go.Proofs.YtpojjmbalgmcoaaGreat
open Go.RowKit
attribute [local go_sem] Oper.semAt_some
structure VX where
 v:Nat
 Ao:Option Addr
 no:Nat
 co:Nat
 Ab:Option Addr
 nb:Nat
 cb:Nat
def vxEnc (x:VX):Array Value:=#[.int .i64 (x.v:Int),.agg #[.slice x.Ao x.no x.co,.slice x.Ab x.nb x.cb]]
def VxIn (es:List Ed) (x:VX) (W:World):Prop:=(fromF es x.v).length=x.no∧(toF es x.v).length=x.nb ∧
 W.ownsRow 0 57 3 (.slice x.Ao x.no x.co) x.no (edFlat (fromF es x.v))∧W.ownsRow 0 57 3 (.slice x.Ab x.nb x.cb) x.nb (edFlat (toF es x.v))
def KpM (B m:Nat) (W W':World):Prop:=W.heap.size≤W'.heap.size∧∀b,b<B→b≠m→W'.heap[b]?=W.heap[b]?
theorem KpM.refl (B m:Nat) (W:World):KpM B m W W:=⟨Nat.le_refl _,fun _ _ _=>rfl⟩
theorem KpM.trans {B m:Nat} {X Y Z:World} (h:KpM B m X Y) (k:KpM B m Y Z):KpM B m X Z:=⟨Nat.le_trans h.1 k.1,fun b h1 h2=>(k.2 b h1 h2).trans (h.2 b h1 h2)⟩
theorem KpM.of_below {B m C:Nat} {X Y:World} (h:Below C X Y) (hC:B≤C):KpM B m X Y:=⟨h.size,fun b h1 _=>h.block b (Nat.lt_of_lt_of_le h1 hC)⟩
theorem KpM.put {B m:Nat} {W:World} {l:Nat} (o':Obj) (hl:B≤l):KpM B m W (W.putObj l o'):=⟨by simp,fun b h1 _=>World.putObj_heap_other (by omega)⟩
theorem below_grown {w w':World} (h:Below w.heap.size w w'):w.grownBy w' none:=⟨h.os,h.tape,h.output,h.size,fun k hk _=>h.block k hk⟩
def Yd (J:List VX→World→Prop) (xs:List VX) (V:World) (Kp:World→World→Prop) (e:Ending) (V':World):Prop:=Hid (e = .returned (.bool true)∧J xs V'∧Kp V V')
theorem yd_of {J:List VX→World→Prop} {xs:List VX} {V:World} {Kp:World→World→Prop} {e:Ending} {V':World} (h:e = .returned (.bool true)∧J xs V'∧Kp V V'):Yd J xs V Kp e V':=hide h
theorem verts_J {J:List VX→World→Prop} {B:Nat} {xs:List VX} {wr z1 z2:World} (hJ:AbidesFrom B J) (h:J xs wr) (hB:B≤wr.heap.size) (h1:Below wr.drew.heap.size wr.drew z1) (h2:Below z1.heap.size z1 z2):J xs z2:=
 hJ _ _ _ none (hJ _ _ _ none (hJ _ _ wr.drew none h ⟨rfl,rfl,rfl,Nat.le_refl _,fun _ _ _=>rfl⟩ (fun r e=>by cases e)) (below_grown h1) (fun r e=>by cases e)) (below_grown h2) (fun r e=>by cases e)
theorem verts_E {es:List Ed} {j B:Nat} {z1 z2:World} {A1 A2:Option Addr} {c1 c2:Nat} (h1:z1.ownsRow B 57 3 (.slice A1 (fromF es j).length c1) (fromF es j).length (edFlat (fromF es j))) (h2:z2.ownsRow z1.heap.size 57 3 (.slice A2 (toF es j).length c2) (toF es j).length (edFlat (toF es j))) (hb:Below z1.heap.size z1 z2) :
  VxIn es ⟨j,A1,(fromF es j).length,c1,A2,(toF es j).length,c2⟩ z2:=
 ⟨rfl,rfl,own_base (own_below h1 hb (fun g hg=>(h1.lt g hg).2)) (Nat.zero_le _),own_base h2 (Nat.zero_le _)⟩
theorem vX {xs:List VX} {j:Nat} (h:xs.map VX.v=List.range j) (A1:Option Addr) (n1 c1:Nat) (A2:Option Addr) (n2 c2:Nat):(xs ++ [(⟨j,A1,n1,c1,A2,n2,c2⟩:VX)]).map VX.v=List.range (j+1):=by
 rw[List.map_append,h,List.range_succ]
 rfl
theorem vK {B m:Nat} {w wr z1 z2 W3:World} (h:KpM B m w wr) (h1:Below wr.drew.heap.size wr.drew z1) (h2:Below z1.heap.size z1 z2) (h3:KpM B m z2 W3) (hB:B≤wr.heap.size:=by omega):KpM B m w W3:=
 ((h.trans (⟨Nat.le_refl _,fun _ _ _=>rfl⟩:KpM B m wr wr.drew)).trans (KpM.of_below h1 hB)).trans ((KpM.of_below h2 (Nat.le_trans hB h1.size)).trans h3)
def VxAll (V:Nat) (xs:List VX):Prop:=xs.map VX.v=List.range V
theorem verts_in (n:Nat) (hn:1≤n) (w:World) (G B1 m:Nat) (V:Nat) (hV:V≤512) (A:Option Addr) (es:List Ed) (L c:Nat) (hL:es.length=L) (hL5:L≤8192) (hG:w.heap[G]?=some (.cells #[.int .i64 (V:Int),.slice A L c] 24)) (hGm:G≠m) (hE:Eds w B1 A es) (hB1:B1≤m) (hm:m<w.heap.size) :
  SeqE Fence.wide n Tryz.prog 91 #[.pointer (some ⟨G,0,none⟩)] vxEnc (KpM w.heap.size m) (VxIn es) (VxAll V) 513 w:=by
 intro l J W hW hJ hY h0
 have hGl:G<w.heap.size:=(Array.getElem?_eq_some_iff.1 hG).1
 have HG:=hide hG
 have HE:=hide hE
 have HL:=hide hL
 clear hG hE hL
 refine callsIn_of_wp Tryz.func91 rfl trivial ?_ rfl
 simp only[Tryz.ntmps91,List.size_toArray,List.length_cons,List.length_nil,Nat.reduceAdd,Nat.reduceSub,Array.replicate_succ,Array.replicate_zero,List.push_toArray,List.append_toArray,List.nil_append,List.cons_append]
 have HK0:=hide (KpM.of_below (m:=m) hW (Nat.le_refl _))
 have GW:=(HK0.out.2 G hGl hGm).trans HG.out
 have g0:W.cell? ⟨G,0,none⟩=some (.int .i64 (V:Int)):=cell_of_row _ _ 0 _ _ _ GW
 clear GW
 gi_wp2
 clear g0
 gi_loopw [6] (fun i wr=>∃(j:Nat) (xs:List VX),j≤V∧i = .int .i64 (j:Int)∧Hid (xs.map VX.v=List.range j)∧Hid (J xs wr)∧Hid (KpM w.heap.size m w wr)∧Hid (W.heap.size≤wr.heap.size)) (fun i _=>V-(intOf i).toNat)
 case atStart=>exact⟨0,[],by omega,rfl,hide rfl,hide h0,HK0,hide (Nat.le_refl _)⟩
 case round=>
  obtain⟨j,xs,hj,rfl,HX,HJ,HK,HS⟩:=hrel
  have GW:=(HK.out.2 G hGl hGm).trans HG.out
  obtain⟨g0,g1⟩:=zr2 GW
  have hsz:=HK.out.1
  have hGr:G<wr.heap.size:=by omega
  by_cases hlt:j<V
  ·have hI0:(0:Int)≤(j:Int):=by omega
   have hI1:(j:Int)<(V:Int):=by omega
   have HEr:=hide (show Eds wr wr.heap.size A es from Els.more (Els.keep HE.out (fun p hp=>World.cell?_of_block (HK.out.2 p.block (by omega) (by omega))) (fun _ _ h=>h)) (by omega))
   clear GW
   gi_wp2
   have hWr:W.heap.size≤wr.heap.size:=HS.out
   gi_region_with (first | (refine⟨trivial,?_⟩;refine (callsIn_wide.2 (gout_any wr.drew (V:Int) A es L c (j:Int) HL.out (show Eds wr.drew wr.drew.heap.size A es from HEr.out) hL5)).mono ?_;rintro e z1 ⟨A1,c1,rfl,ho1,hz1⟩;have g0':=(hz1.cell (p:=⟨G,0,none⟩) hGr).trans g0;have g1':=(hz1.cell (p:=⟨G,1,none⟩) hGr).trans g1;have hGz:=Nat.lt_of_lt_of_le hGr hz1.size) | (refine⟨trivial,?_⟩;refine (callsIn_wide.2 (gback_any z1 (V:Int) A es L c (j:Int) HL.out (Els.more (Els.keep HEr.out (fun p hp=>hz1.cell hp) (fun _ _ h=>h)) hz1.size) hL5)).mono ?_;rintro e z2 ⟨A2,c2,rfl,ho2,hz2⟩;obtain⟨fn,tmps,assign,body,hy,hR⟩:=YieldAt.mono (hY xs ⟨j,A1,(fromF es j).length,c1,A2,(toF es j).length,c2⟩ z2 (verts_J hJ HJ.out (by omega) hz1 hz2) (verts_E ho1 ho2 hz2) (by have h:=congrArg List.length HX.out;simp at h;omega)) (fun _ _ h=>yd_of h);dsimp only [vxEnc] at hy;have Hz:=hide (And.intro hz1 hz2);clear ho1 ho2 hz1 hz2) | (refine hR.mono ?_;rintro e W3 hyd;obtain⟨rfl,hj3⟩:=hyd.out))
   all_goals
    have HJ3:=hide hj3.1
    have HKx:=hide (vK HK.out Hz.out.1 Hz.out.2 hj3.2)
    have HX3:=hide (vX HX.out A1 (fromF es j).length c1 A2 (toF es j).length c2)
    have HS3:=hide (show W.heap.size≤W3.heap.size by have h1:=Hz.out.1.size;have h2:=Hz.out.2.size;have h3:=hj3.2.1;have h4:wr.drew.heap.size=wr.heap.size:=rfl;omega)
    clear hj3 hyd hR hy HX HJ HK HS Hz g0 g1 g0' g1'
    gi_wp2
    go_roundw
    case rel=>exact⟨j+1,_,by omega,by go_num,HX3,HJ3,HKx,HS3⟩
    case measure=>simp[intOf];omega
  obtain rfl:j=V:=by omega
  clear g1 GW
  gi_wp2
  go_end0
  exact⟨⟨_,rfl⟩,_,HX.out,HJ.out⟩
end Go.Proofs.YtpojjmbalgmcoaaGreat

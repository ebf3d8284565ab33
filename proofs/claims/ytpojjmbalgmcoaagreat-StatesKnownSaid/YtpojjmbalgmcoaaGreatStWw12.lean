/- Lemmas: Fdb. -/
import Derived.RangeFuncNested
import Derived.RangeFuncBound
import Derived.RangeFuncCalls
import Derived.RangeFuncLeaves
import Derived.RangeFuncBox
import Derived.Shelf.Abstract
import Derived.Shelf.RegionOpen
import Derived.WalkKit
import Derived.OwnWalkIn
import Derived.TacticsInMore
import Derived.LoopNIn
import Derived.LoopIn
import Derived.Test.YtpojjmbalgmcoaaGreatProg
import Derived.Test.YtpojjmbalgmcoaaGreatStWw1
set_option linter.unusedVariables false
set_option linter.unusedSimpArgs false
set_option maxRecDepth 100000
set_option maxHeartbeats 16000000
namespace Go.Proofs.YtpojjmbalgmcoaaGreat
open Go.RowKit Go.Shelf
attribute [local go_sem] Oper.semAt_some
def KpB (Bs b n:Nat) (W W':World):Prop:=
 (∀v,W.cell? ⟨Bs,0,none⟩=some v→W'.cell? ⟨Bs,0,none⟩=some v)∧∀j,j<n→(∃v:Int,W.cell? ⟨b,j,none⟩=some (.int .u8 v))→∃v:Int,W'.cell? ⟨b,j,none⟩=some (.int .u8 v)
theorem KpB.refl (Bs b n:Nat) (W:World):KpB Bs b n W W:=⟨fun _ h=>h,fun _ _ h=>h⟩
theorem kpB_t {Bs b n:Nat} {A B C:World} (h:KpB Bs b n A B) (k:KpB Bs b n B C):KpB Bs b n A C:=⟨fun v e=>k.1 v (h.1 v e),fun j hj e=>k.2 j hj (h.2 j hj e)⟩
theorem kpB_below {Bs b n m:Nat} {A B:World} (h:Below m A B) (h1:Bs<m) (h2:b<m):KpB Bs b n A B:=
 ⟨fun v e=>(h.cell (p:=⟨Bs,0,none⟩) h1).trans e,fun j hj ⟨v,e⟩=>⟨v,(h.cell (p:=⟨b,j,none⟩) h2).trans e⟩⟩
theorem kpB_b {Bs b n:Nat} {w:World} (h1:Bs<w.heap.size) (h2:b<w.heap.size) (W:World) (l:Nat) (o o':Obj) (hl:w.heap.size≤l) (h:W.heap[l]?=some o) (x:o.isCells=false) (y:o.isWalk=false):KpB Bs b n W (W.putObj l o'):=
 kpB_below (belowK_b (Nat.le_refl _) W l o o' hl h x y) h1 h2
def downTo (n k:Nat):List Nat:=((List.range n).drop k).reverse
theorem downTo_all (n:Nat):downTo n n=[]:=by simp[downTo]
theorem downTo_next {n k:Nat} (h:k<n):downTo n k=downTo n (k+1) ++ [k]:=by
 unfold downTo
 rw[List.drop_eq_getElem_cons (show k<(List.range n).length by simpa using h),List.reverse_cons]
 simp
theorem backward1_in (F:Fence) (n:Nat) (hf:F.fn 100) (hro:F.round=none) (hn:1≤n) (l Bs b len cap:Nat) (hlen:len≤1000) (J Jx:List ({ i:Nat // i<len }×Int)→World→Prop)
  (hY:∀pre x W,J pre W→pre.length<len→YieldAt F (n-1) Tryz.prog l #[.int .i64 (x.1.1:Int),.int .u8 x.2] W fun e W'=>
   (e = .returned (.bool true)∧J (pre ++ [x]) W'∧KpB Bs b len W W')∨(e = .returned (.bool false)∧Jx (pre ++ [x]) W'))
  (W:World) (hBs:W.cell? ⟨Bs,0,none⟩=some (.slice (some ⟨b,0,none⟩) len cap)) (hc:∀j,j<len→∃v:Int,W.cell? ⟨b,j,none⟩=some (.int .u8 v)) (h0:J [] W) :
  CallsIn F n Tryz.prog 100 #[.func (.yield l) #[] #[],.pointer (some ⟨Bs,0,none⟩)] W fun e W'=>(∃v,e = .returned v) ∧
   ((∃ys:List ({ i:Nat // i<len }×Int),ys.map (·.1.1)=downTo len 0∧J ys W')∨(∃pre,True∧Jx pre W')):=by
 refine callsIn_of_wp Tryz.func100 rfl hf ?_ hro
 simp only[Tryz.ntmps100,List.size_toArray,List.length_cons,List.length_nil,Nat.reduceAdd,Nat.reduceSub,Array.replicate_succ,Array.replicate_zero,List.push_toArray,List.append_toArray,List.nil_append,List.cons_append]
 gi_wp2
 gi_loopw [3] (fun i wr=>∃(k:Nat) (z:Int) (pre:List ({ i:Nat // i<len }×Int)),k≤len∧i = .int .i64 z∧z+1=k∧pre.map (·.1.1)=downTo len k∧J pre wr∧KpB Bs b len W wr)
  (fun i _=>(intOf i+1).toNat)
 case atStart=>exact⟨len,(len:Int)-1,[],Nat.le_refl _,rfl,by omega,(downTo_all _).symm,h0,KpB.refl _ _ _ _⟩
 case round=>
  obtain⟨k,z,pre,hk,rfl,hz,hpre,hJs,hnx⟩:=hrel
  have hB2:=hnx.1 _ hBs
  by_cases hlt:0≤z
  ·obtain⟨q,rfl⟩:=Int.eq_ofNat_of_zero_le hlt
   have hq:q<len:=by omega
   obtain⟨v,hv⟩:=hnx.2 q hq (hc q hq)
   have hkq:k=q+1:=by omega
   subst hkq
   have hpl:pre.length<len:=by
    have:=congrArg List.length hpre
    simp[downTo] at this
    omega
   obtain⟨fn,tmps,assign,body,hy,hR⟩:=hY pre (⟨q,hq⟩,v) wr hJs hpl
   dsimp only at hy
   have hI0:(0:Int)≤(q:Int):=by omega
   have hI1:(q:Int)<(len:Int):=by omega
   gi_wp2
   refine hR.mono ?_
   rintro e W3 (⟨rfl,hJ3,hk3⟩ | ⟨rfl,hJx3⟩)
   ·gi_wp2
    go_roundw
    case rel=>exact⟨q,(q:Int)-1,pre ++ [(⟨q,hq⟩,v)],by omega,by go_num,by omega,by rw[List.map_append,hpre,downTo_next hq];rfl,hJ3,kpB_t hnx hk3⟩
    case measure=>simp[intOf]
   gi_wp2
   refine bodyPost_ret (results_none rfl _ _ _) rfl ?_
   exact⟨⟨_,rfl⟩,.inr ⟨_,trivial,hJx3⟩⟩
  obtain rfl:z=-1:=by omega
  obtain rfl:k=0:=by omega
  gi_wp2
  go_end0
  exact⟨⟨_,rfl⟩,.inl ⟨_,hpre,hJs⟩⟩
theorem backward_in (F:Fence) (n:Nat) (hf:F.fn 83) (hro:F.round=none) (a:Option Addr) (len cap:Nat) (w:World) :
  CallsIn F n Tryz.prog 83 #[.slice a len cap] w fun e w'=>e = .returned (.func (.func 100) #[] #[.pointer (some ⟨w.heap.size,0,none⟩)])∧w'=w.alloc (.cells #[.slice a len cap] 45):=by
 refine callsIn_of_wp Tryz.func83 rfl hf ?_ hro
 simp only[Tryz.ntmps83,List.size_toArray,List.length_cons,List.length_nil,Nat.reduceAdd,Nat.reduceSub,Array.replicate_succ,Array.replicate_zero,List.push_toArray,List.append_toArray,List.nil_append,List.cons_append]
 gi_wp2
 go_ret
 exact⟨rfl,rfl⟩
theorem backward_stops (F:Fence) (n:Nat) (hf:F.fn 100) (hro:F.round=none) (hn:1≤n) (Bs b len cap:Nat) (hlen:len≤1000) (w:World) (hBs:Bs<w.heap.size) (hb:b<w.heap.size)
  (hc:w.cell? ⟨Bs,0,none⟩=some (.slice (some ⟨b,0,none⟩) len cap)) (hI:∀j,j<len→∃v:Int,w.cell? ⟨b,j,none⟩=some (.int .u8 v)) :
  SeqStopsK F n Tryz.prog 100 #[.pointer (some ⟨Bs,0,none⟩)] (fun x:{ i:Nat // i<len }×Int=>#[Value.int .i64 (x.1.1:Int),Value.int .u8 x.2]) (KpB Bs b len) (fun ys=>ys.map (·.1.1)=downTo len 0)
   (fun pre=>True) len w:=fun l J Jx W hW _ _ hY h0=>
 backward1_in F n hf hro hn l Bs b len cap hlen J Jx hY W ((hW.cell (p:=⟨Bs,0,none⟩) hBs).trans hc) (fun j hj=>by obtain⟨v,e⟩:=hI j hj;exact⟨v,(hW.cell (p:=⟨b,j,none⟩) hb).trans e⟩) h0
end Go.Proofs.YtpojjmbalgmcoaaGreat

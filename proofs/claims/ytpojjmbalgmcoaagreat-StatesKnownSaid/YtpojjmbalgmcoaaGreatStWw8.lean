/- Lemmas: Sms. -/
import Derived.Test.YtpojjmbalgmcoaaGreatProg
import Derived.Lib.Hide
import Derived.WalkSpells
import Derived.WalkMore
import Derived.IntWalk
import Derived.Test.YtpojjmbalgmcoaaGreatStWw3
import Derived.Test.YtpojjmbalgmcoaaGreatStWw6
set_option linter.unusedVariables false
set_option linter.unusedSimpArgs false
set_option maxRecDepth 100000
set_option maxHeartbeats 16000000
namespace Go.Proofs.YtpojjmbalgmcoaaGreat
open Go.RowKit
def nmA (m:Ml):Ml:=if m.1 then m else (false,0)
def sameS (p q:SPart):Bool:=decide (p.step=q.step) && eqL p.own q.own && eqL p.vals q.vals && eqL p.chg q.chg && eqL (p.inb.map nmA) (q.inb.map nmA)
theorem bools_getA? {l:List Bool} {i:Nat} {x:Bool} (h:l[i]?=some x):(bools l)[i]?=some (.bool x):=by simp[bools,h]
theorem equalI_any (w:World) (A B:Option Addr) (xs ys:List Int) (n m c d:Nat) (hx:xs.length=n) (hy:ys.length=m) (hn:n≤9223372036854775807) (rx:Rd w w.heap.size A (i64s xs)) (ry:Rd w w.heap.size B (i64s ys)) :
  Calls Tryz.prog 51 #[.slice A n c,.slice B m d] w fun e w'=>e = .returned (.bool (eqL xs ys))∧Below w.heap.size w w':=by
 have HX:=hide hx
 have HY:=hide hy
 have RX:=hide rx
 have RY:=hide ry
 clear hx hy rx ry
 by_cases hnm:n=m
 ·obtain rfl:=hnm
  go_enter Tryz.func51,Tryz.ntmps51
  go_wp2
  go_loopw [13] (fun vi wr=>∃i:Nat,i≤n∧vi = .int .i64 i∧Hid (eqL xs ys=eqL (xs.drop i) (ys.drop i))∧Hid (Kept w wr)∧Hid (Below w.heap.size w wr)) (fun vi _=>n-(intOf vi).toNat)
  case atStart=>exact⟨0,by omega,rfl,hide rfl,hide (Kept.refl w),hide (Below.refl _ _)⟩
  case round=>
   obtain⟨i,hi,rfl,heq,hkr,hbr⟩:=hrel
   by_cases hlt:i<n
   ·have hi1:i<xs.length:=by rw[HX.out];exact hlt
    have hi2:i<ys.length:=by rw[HY.out];exact hlt
    have HS:=hide (eqL_step xs ys i hi1 hi2)
    obtain⟨b1,o1,rfl,l1,cx⟩:=RX.out.at1 (i:=i) (i64s_get (List.getElem?_eq_getElem hi1))
    obtain⟨b2,o2,rfl,l2,cy⟩:=RY.out.at1 (i:=i) (i64s_get (List.getElem?_eq_getElem hi2))
    obtain⟨x,hx⟩:∃x,xs[i]=x:=⟨_,rfl⟩
    obtain⟨y,hy⟩:∃y,ys[i]=y:=⟨_,rfl⟩
    rw[hx] at cx HS
    rw[hy] at cy HS
    have hI0:(0:Int)≤(i:Int):=by omega
    have hI1:(i:Int)<(n:Int):=by omega
    clear hx hy hi1 hi2
    by_cases hxy:x=y
    ·have HE:Hid (eqL xs ys=eqL (xs.drop (i+1)) (ys.drop (i+1))):=hide (by rw[heq.out,HS.out,hxy,decide_eq_true rfl,Bool.true_and])
     subst hxy
     skip
     all_goals
      go_wp2
      refine wp_region_held_drew (S:=Kept w) (by kernel_rfl) (fun p hp=>hkr.out p hp) (fun hS0=>?_)
      refine tka 0 16 ?_
      refine tka 1 17 ?_
      refine tka 2 18 ?_
      refine tka 3 19 ?_
      refine tka 4 20 ?_
      refine tka 5 21 ?_
      refine tka 6 22 ?_
      refine tka 7 23 ?_
      refine tka 8 24 ?_
      refine wpAnyH_done (by kernel_rfl) ?_ _
      clear hS0
      go_wp2
      go_roundw
      case rel=>exact⟨i+1,by omega,by go_num,HE,hide (fun p hp=>hkr.out p hp),hide hbr.out.drew⟩
      case measure=>simp[intOf];omega
    have HE:Hid (eqL xs ys=false):=hide (by rw[heq.out,HS.out,decide_eq_false hxy,Bool.false_and])
    skip
    all_goals
     go_wp2
     refine wp_region_held_drew (S:=Kept w) (by kernel_rfl) (fun p hp=>hkr.out p hp) (fun hS0=>?_)
     refine tka 0 16 ?_
     refine tka 1 17 ?_
     refine tka 2 18 ?_
     refine tka 3 19 ?_
     refine tka 4 20 ?_
     refine tka 5 21 ?_
     refine tka 6 22 ?_
     refine tka 7 23 ?_
     refine tka 8 24 ?_
     refine wpAnyH_done (by kernel_rfl) ?_ _
     clear hS0
     go_wp2
     go_ret
     exact⟨ret_b (by rw[HE.out]),hbr.out.drew⟩
   obtain rfl:i=n:=by omega
   have HE:Hid (eqL xs ys=true):=hide (by rw[heq.out,List.drop_of_length_le (by have:=HX.out;omega),List.drop_of_length_le (by have:=HY.out;omega)];exact eqL_nil)
   go_wp2
   go_ret
   exact⟨ret_b (by rw[HE.out]),hbr.out⟩
 have HE:Hid (eqL xs ys=false):=hide (eqL_len (by rw[HX.out,HY.out];exact hnm))
 have hne:((n:Int) == (m:Int))=false:=by simp;omega
 have hne2:((n:Int) != (m:Int))=true:=by simp;omega
 go_enter Tryz.func51,Tryz.ntmps51
 go_wp2
 go_ret
 exact⟨ret_b (by rw[HE.out]),Below.refl _ _⟩
theorem equalL_anyA (w:World) (A B:Option Addr) (xs ys:List Int) (n m c d:Nat) (hx:xs.length=n) (hy:ys.length=m) (hn:n≤9223372036854775807) (rx:Rd w w.heap.size A (i64s xs)) (ry:Rd w w.heap.size B (i64s ys)) :
  Calls Tryz.prog 63 #[.slice A n c,.slice B m d] w fun e w'=>e = .returned (.bool (eqL xs ys))∧Below w.heap.size w w':=by
 have HX:=hide hx
 have HY:=hide hy
 have RX:=hide rx
 have RY:=hide ry
 clear hx hy rx ry
 by_cases hnm:n=m
 ·obtain rfl:=hnm
  go_enter Tryz.func63,Tryz.ntmps63
  go_wp2
  go_loopw [13] (fun vi wr=>∃i:Nat,i≤n∧vi = .int .i64 i∧Hid (eqL xs ys=eqL (xs.drop i) (ys.drop i))∧Hid (Kept w wr)∧Hid (Below w.heap.size w wr)) (fun vi _=>n-(intOf vi).toNat)
  case atStart=>exact⟨0,by omega,rfl,hide rfl,hide (Kept.refl w),hide (Below.refl _ _)⟩
  case round=>
   obtain⟨i,hi,rfl,heq,hkr,hbr⟩:=hrel
   by_cases hlt:i<n
   ·have hi1:i<xs.length:=by rw[HX.out];exact hlt
    have hi2:i<ys.length:=by rw[HY.out];exact hlt
    have HS:=hide (eqL_step xs ys i hi1 hi2)
    obtain⟨b1,o1,rfl,l1,cx⟩:=RX.out.at1 (i:=i) (i64s_get (List.getElem?_eq_getElem hi1))
    obtain⟨b2,o2,rfl,l2,cy⟩:=RY.out.at1 (i:=i) (i64s_get (List.getElem?_eq_getElem hi2))
    obtain⟨x,hx⟩:∃x,xs[i]=x:=⟨_,rfl⟩
    obtain⟨y,hy⟩:∃y,ys[i]=y:=⟨_,rfl⟩
    rw[hx] at cx HS
    rw[hy] at cy HS
    have hI0:(0:Int)≤(i:Int):=by omega
    have hI1:(i:Int)<(n:Int):=by omega
    clear hx hy hi1 hi2
    by_cases hxy:x=y
    ·have HE:Hid (eqL xs ys=eqL (xs.drop (i+1)) (ys.drop (i+1))):=hide (by rw[heq.out,HS.out,hxy,decide_eq_true rfl,Bool.true_and])
     subst hxy
     skip
     all_goals
      go_wp2
      refine wp_region_held_drew (S:=Kept w) (by kernel_rfl) (fun p hp=>hkr.out p hp) (fun hS0=>?_)
      refine tka 0 16 ?_
      refine tka 1 17 ?_
      refine tka 2 18 ?_
      refine tka 3 19 ?_
      refine tka 4 20 ?_
      refine tka 5 21 ?_
      refine tka 6 22 ?_
      refine tka 7 23 ?_
      refine tka 8 24 ?_
      refine wpAnyH_done (by kernel_rfl) ?_ _
      clear hS0
      go_wp2
      go_roundw
      case rel=>exact⟨i+1,by omega,by go_num,HE,hide (fun p hp=>hkr.out p hp),hide hbr.out.drew⟩
      case measure=>simp[intOf];omega
    have HE:Hid (eqL xs ys=false):=hide (by rw[heq.out,HS.out,decide_eq_false hxy,Bool.false_and])
    skip
    all_goals
     go_wp2
     refine wp_region_held_drew (S:=Kept w) (by kernel_rfl) (fun p hp=>hkr.out p hp) (fun hS0=>?_)
     refine tka 0 16 ?_
     refine tka 1 17 ?_
     refine tka 2 18 ?_
     refine tka 3 19 ?_
     refine tka 4 20 ?_
     refine tka 5 21 ?_
     refine tka 6 22 ?_
     refine tka 7 23 ?_
     refine tka 8 24 ?_
     refine wpAnyH_done (by kernel_rfl) ?_ _
     clear hS0
     go_wp2
     go_ret
     exact⟨ret_b (by rw[HE.out]),hbr.out.drew⟩
   obtain rfl:i=n:=by omega
   have HE:Hid (eqL xs ys=true):=hide (by rw[heq.out,List.drop_of_length_le (by have:=HX.out;omega),List.drop_of_length_le (by have:=HY.out;omega)];exact eqL_nil)
   go_wp2
   go_ret
   exact⟨ret_b (by rw[HE.out]),hbr.out⟩
 have HE:Hid (eqL xs ys=false):=hide (eqL_len (by rw[HX.out,HY.out];exact hnm))
 have hne:((n:Int) == (m:Int))=false:=by simp;omega
 have hne2:((n:Int) != (m:Int))=true:=by simp;omega
 go_enter Tryz.func63,Tryz.ntmps63
 go_wp2
 go_ret
 exact⟨ret_b (by rw[HE.out]),Below.refl _ _⟩
theorem equalB_anyA (w:World) (A B:Option Addr) (xs ys:List Bool) (n m c d:Nat) (hx:xs.length=n) (hy:ys.length=m) (hn:n≤9223372036854775807) (rx:Rd w w.heap.size A (bools xs)) (ry:Rd w w.heap.size B (bools ys)) :
  Calls Tryz.prog 64 #[.slice A n c,.slice B m d] w fun e w'=>e = .returned (.bool (eqL xs ys))∧Below w.heap.size w w':=by
 have HX:=hide hx
 have HY:=hide hy
 have RX:=hide rx
 have RY:=hide ry
 clear hx hy rx ry
 by_cases hnm:n=m
 ·obtain rfl:=hnm
  go_enter Tryz.func64,Tryz.ntmps64
  go_wp2
  go_loopw [13] (fun vi wr=>∃i:Nat,i≤n∧vi = .int .i64 i∧Hid (eqL xs ys=eqL (xs.drop i) (ys.drop i))∧Hid (Kept w wr)∧Hid (Below w.heap.size w wr)) (fun vi _=>n-(intOf vi).toNat)
  case atStart=>exact⟨0,by omega,rfl,hide rfl,hide (Kept.refl w),hide (Below.refl _ _)⟩
  case round=>
   obtain⟨i,hi,rfl,heq,hkr,hbr⟩:=hrel
   by_cases hlt:i<n
   ·have hi1:i<xs.length:=by rw[HX.out];exact hlt
    have hi2:i<ys.length:=by rw[HY.out];exact hlt
    have HS:=hide (eqL_step xs ys i hi1 hi2)
    obtain⟨b1,o1,rfl,l1,cx⟩:=RX.out.at1 (i:=i) (bools_getA? (List.getElem?_eq_getElem hi1))
    obtain⟨b2,o2,rfl,l2,cy⟩:=RY.out.at1 (i:=i) (bools_getA? (List.getElem?_eq_getElem hi2))
    obtain⟨x,hx⟩:∃x,xs[i]=x:=⟨_,rfl⟩
    obtain⟨y,hy⟩:∃y,ys[i]=y:=⟨_,rfl⟩
    rw[hx] at cx HS
    rw[hy] at cy HS
    have hI0:(0:Int)≤(i:Int):=by omega
    have hI1:(i:Int)<(n:Int):=by omega
    clear hx hy hi1 hi2
    by_cases hxy:x=y
    ·have HE:Hid (eqL xs ys=eqL (xs.drop (i+1)) (ys.drop (i+1))):=hide (by rw[heq.out,HS.out,hxy,decide_eq_true rfl,Bool.true_and])
     subst hxy
     cases x
     all_goals
      go_wp2
      refine wp_region_held_drew (S:=Kept w) (by kernel_rfl) (fun p hp=>hkr.out p hp) (fun hS0=>?_)
      refine tka 0 16 ?_
      refine tka 1 17 ?_
      refine tka 2 18 ?_
      refine tka 3 19 ?_
      refine tka 4 20 ?_
      refine tka 5 21 ?_
      refine tka 6 22 ?_
      refine tka 7 23 ?_
      refine tka 8 24 ?_
      refine wpAnyH_done (by kernel_rfl) ?_ _
      clear hS0
      go_wp2
      go_roundw
      case rel=>exact⟨i+1,by omega,by go_num,HE,hide (fun p hp=>hkr.out p hp),hide hbr.out.drew⟩
      case measure=>simp[intOf];omega
    have HE:Hid (eqL xs ys=false):=hide (by rw[heq.out,HS.out,decide_eq_false hxy,Bool.false_and])
    cases x <;> cases y <;> (first | exact absurd rfl hxy | skip)
    all_goals
     go_wp2
     refine wp_region_held_drew (S:=Kept w) (by kernel_rfl) (fun p hp=>hkr.out p hp) (fun hS0=>?_)
     refine tka 0 16 ?_
     refine tka 1 17 ?_
     refine tka 2 18 ?_
     refine tka 3 19 ?_
     refine tka 4 20 ?_
     refine tka 5 21 ?_
     refine tka 6 22 ?_
     refine tka 7 23 ?_
     refine tka 8 24 ?_
     refine wpAnyH_done (by kernel_rfl) ?_ _
     clear hS0
     go_wp2
     go_ret
     exact⟨ret_b (by rw[HE.out]),hbr.out.drew⟩
   obtain rfl:i=n:=by omega
   have HE:Hid (eqL xs ys=true):=hide (by rw[heq.out,List.drop_of_length_le (by have:=HX.out;omega),List.drop_of_length_le (by have:=HY.out;omega)];exact eqL_nil)
   go_wp2
   go_ret
   exact⟨ret_b (by rw[HE.out]),hbr.out⟩
 have HE:Hid (eqL xs ys=false):=hide (eqL_len (by rw[HX.out,HY.out];exact hnm))
 have hne:((n:Int) == (m:Int))=false:=by simp;omega
 have hne2:((n:Int) != (m:Int))=true:=by simp;omega
 go_enter Tryz.func64,Tryz.ntmps64
 go_wp2
 go_ret
 exact⟨ret_b (by rw[HE.out]),Below.refl _ _⟩
theorem mlsame_anyA (w:World) (a b:Bool) (x y:Int):Calls Tryz.prog 88 #[.agg #[.bool a,.int .i64 x],.agg #[.bool b,.int .i64 y]] w fun e w'=>e = .returned (.bool (decide (nmA (a,x)=nmA (b,y))))∧Below w.heap.size w w':=by
 have HB:=hide (show Below w.heap.size w ((w.alloc (.cells #[.bool a,.int .i64 x] 51)).alloc (.cells #[.bool b,.int .i64 y] 51)) from ((Below.refl _ _).alloc (Nat.le_refl _) _).alloc (by simp) _)
 rcases a with _ | _ <;> rcases b with _ | _
 ·go_enter Tryz.func88,Tryz.ntmps88
  go_wp2
  go_ret
  exact⟨ret_b (by simp[nmA]),HB.out⟩
 ·go_enter Tryz.func88,Tryz.ntmps88
  go_wp2
  go_ret
  exact⟨ret_b (by simp[nmA]),HB.out⟩
 ·go_enter Tryz.func88,Tryz.ntmps88
  go_wp2
  go_ret
  exact⟨ret_b (by simp[nmA]),HB.out⟩
 by_cases hxy:x=y
 ·subst hxy
  go_enter Tryz.func88,Tryz.ntmps88
  go_wp2
  go_ret
  exact⟨ret_b (by simp),HB.out⟩
 have hxy':(x == y)=false:=by simp only[beq_eq_false_iff_ne,ne_eq];exact hxy
 have HE:Hid (decide (nmA (true,x)=nmA (true,y))=false):=hide (by simp[nmA,hxy])
 clear hxy
 go_enter Tryz.func88,Tryz.ntmps88
 go_wp2
 go_ret
 exact⟨ret_b HE.out.symm,HB.out⟩
theorem equalM_anyA (w:World) (A B:Option Addr) (xs ys:List Ml) (n m c d:Nat) (hx:xs.length=n) (hy:ys.length=m) (hn:n≤9223372036854775807) (rx:Rd w w.heap.size A (mlFlat xs)) (ry:Rd w w.heap.size B (mlFlat ys)) :
  Calls Tryz.prog 87 #[.slice A n c,.slice B m d,.func (.func 88) #[] #[]] w fun e w'=>e = .returned (.bool (eqL (xs.map nmA) (ys.map nmA)))∧Below w.heap.size w w':=by
 have HX:=hide hx
 have HY:=hide hy
 have RX:=hide rx
 have RY:=hide ry
 clear hx hy rx ry
 by_cases hnm:n=m
 ·obtain rfl:=hnm
  go_enter Tryz.func87,Tryz.ntmps87
  go_wp2
  go_loopw [17] (fun vi wr=>∃i:Nat,i≤n∧vi = .int .i64 i∧Hid (eqL (xs.map nmA) (ys.map nmA)=eqL ((xs.map nmA).drop i) ((ys.map nmA).drop i))∧Hid (Below w.heap.size w wr)) (fun vi _=>n-(intOf vi).toNat)
  case atStart=>exact⟨0,by omega,rfl,hide rfl,hide (Below.refl _ _)⟩
  case round=>
   obtain⟨i,hi,rfl,heq,hbr⟩:=hrel
   by_cases hlt:i<n
   ·have hi1:i<xs.length:=by rw[HX.out];exact hlt
    have hi2:i<ys.length:=by rw[HY.out];exact hlt
    have HS:=hide (eqL_step (xs.map nmA) (ys.map nmA) i (by rw[List.length_map];exact hi1) (by rw[List.length_map];exact hi2))
    obtain⟨b1,o1,rfl,l1,cx0,cx1⟩:=RX.out.ml (List.getElem?_eq_getElem hi1)
    obtain⟨b2,o2,rfl,l2,cy0,cy1⟩:=RY.out.ml (List.getElem?_eq_getElem hi2)
    rw[List.getElem_map,List.getElem_map] at HS
    obtain⟨x,hx⟩:∃x,xs[i]=x:=⟨_,rfl⟩
    obtain⟨y,hy⟩:∃y,ys[i]=y:=⟨_,rfl⟩
    rw[hx] at cx0 cx1 HS
    rw[hy] at cy0 cy1 HS
    clear hx hy hi1 hi2
    obtain⟨a,x⟩:=x
    obtain⟨b,y⟩:=y
    have cx0:=(hbr.out.cell (p:=⟨b1,o1+i*2,none⟩) l1).trans cx0
    have cx1:=(hbr.out.cell (p:=⟨b1,o1+i*2+1,none⟩) l1).trans cx1
    have cy0:=(hbr.out.cell (p:=⟨b2,o2+i*2,none⟩) l2).trans cy0
    have cy1:=(hbr.out.cell (p:=⟨b2,o2+i*2+1,none⟩) l2).trans cy1
    dsimp only at cx0 cx1 cy0 cy1
    have hs:=hbr.out.size
    have l1:b1<wr.heap.size:=by omega
    have l2:b2<wr.heap.size:=by omega
    have hI0:(0:Int)≤(i:Int):=by omega
    have hI1:(i:Int)<(n:Int):=by omega
    rcases hq:decide (nmA (a,x)=nmA (b,y)) with _ | _
    ·have HQ:=hide hq
     have HE:Hid (eqL (xs.map nmA) (ys.map nmA)=false):=hide (by rw[heq.out,HS.out,hq,Bool.false_and])
     clear hq
     go_wp2_with fail
     refine (mlsame_anyA _ a b x y).mono ?_
     rintro e z ⟨rfl,hz⟩
     rw[HQ.out]
     have hB:=hide (((hbr.out.alloc hbr.out.size (.cells #[.bool a,.int .i64 x] 51)).alloc (by have:=hbr.out.size;simp;omega) (.cells #[.bool b,.int .i64 y] 51)).trans (hz.mono (by have:=hbr.out.size;simp;omega)))
     clear hz
     go_wp2
     go_ret
     exact⟨ret_b (by rw[HE.out]),hB.out⟩
    have HQ:=hide hq
    have HE:Hid (eqL (xs.map nmA) (ys.map nmA)=eqL ((xs.map nmA).drop (i+1)) ((ys.map nmA).drop (i+1))):=hide (by rw[heq.out,HS.out,hq,Bool.true_and])
    clear hq
    go_wp2_with fail
    refine (mlsame_anyA _ a b x y).mono ?_
    rintro e z ⟨rfl,hz⟩
    rw[HQ.out]
    have hB:=hide (((hbr.out.alloc hbr.out.size (.cells #[.bool a,.int .i64 x] 51)).alloc (by have:=hbr.out.size;simp;omega) (.cells #[.bool b,.int .i64 y] 51)).trans (hz.mono (by have:=hbr.out.size;simp;omega)))
    clear hz
    go_wp2
    go_roundw
    case rel=>exact⟨i+1,by omega,by go_num,HE,hB⟩
    case measure=>simp[intOf];omega
   obtain rfl:i=n:=by omega
   have HE:Hid (eqL (xs.map nmA) (ys.map nmA)=true):=hide (by rw[heq.out,List.drop_of_length_le (by have:=HX.out;rw[List.length_map];omega),List.drop_of_length_le (by have:=HY.out;rw[List.length_map];omega)];exact eqL_nil)
   go_wp2
   go_ret
   exact⟨ret_b (by rw[HE.out]),hbr.out⟩
 have HE:Hid (eqL (xs.map nmA) (ys.map nmA)=false):=hide (eqL_len (by rw[List.length_map,List.length_map,HX.out,HY.out];exact hnm))
 have hne:((n:Int) == (m:Int))=false:=by simp;omega
 have hne2:((n:Int) != (m:Int))=true:=by simp;omega
 go_enter Tryz.func87,Tryz.ntmps87
 go_wp2
 go_ret
 exact⟨ret_b (by rw[HE.out]),Below.refl _ _⟩
theorem isame_anyA (w:World) (A B:Option Addr) (xs ys:List Ml) (n m c d:Nat) (hx:xs.length=n) (hy:ys.length=m) (hn:n≤9223372036854775807) (rx:Rd w w.heap.size A (mlFlat xs)) (ry:Rd w w.heap.size B (mlFlat ys)) :
  Calls Tryz.prog 65 #[.slice A n c,.slice B m d] w fun e w'=>e = .returned (.bool (eqL (xs.map nmA) (ys.map nmA)))∧Below w.heap.size w w':=by
 go_enter Tryz.func65,Tryz.ntmps65
 go_wp2_with fail
 refine (equalM_anyA w A B xs ys n m c d hx hy hn rx ry).mono ?_
 rintro e z ⟨rfl,hz⟩
 go_wp2
 go_ret
 exact⟨rfl,hz⟩
theorem ssame_any (w:World) (p1:SPart) (Ao1 Av1 Ac1 Ai1:Option Addr) (no1 nv1 nc1 ni1 co1 cv1 cc1 ci1:Nat) (hl1:SLen p1 no1 nv1 nc1 ni1) (hi1:SIn w p1 Ao1 Av1 Ac1 Ai1) (p2:SPart) (Ao2 Av2 Ac2 Ai2:Option Addr) (no2 nv2 nc2 ni2 co2 cv2 cc2 ci2:Nat) (hl2:SLen p2 no2 nv2 nc2 ni2) (hi2:SIn w p2 Ao2 Av2 Ac2 Ai2) (bo:no1≤9223372036854775807) (bv:nv1≤9223372036854775807) (bc:nc1≤9223372036854775807) (bi:ni1≤9223372036854775807) :
  Calls Tryz.prog 35 #[.agg #[.int .i64 p1.step,.slice Ao1 no1 co1,.slice Av1 nv1 cv1,.slice Ac1 nc1 cc1,.slice Ai1 ni1 ci1],.agg #[.int .i64 p2.step,.slice Ao2 no2 co2,.slice Av2 nv2 cv2,.slice Ac2 nc2 cc2,.slice Ai2 ni2 ci2]] w fun e w'=>e = .returned (.bool (sameS p1 p2))∧Below w.heap.size w w':=by
 obtain⟨u,hv⟩:∃v,(w.alloc (.cells #[.int .i64 p1.step,.slice Ao1 no1 co1,.slice Av1 nv1 cv1,.slice Ac1 nc1 cc1,.slice Ai1 ni1 ci1] 42)).alloc (.cells #[.int .i64 p2.step,.slice Ao2 no2 co2,.slice Av2 nv2 cv2,.slice Ac2 nc2 cc2,.slice Ai2 ni2 ci2] 42)=v:=⟨_,rfl⟩
 have hz:w.heap.size+2≤u.heap.size:=by rw[←hv];simp
 have hb:Below w.heap.size w u:=by rw[←hv];exact ((Below.refl _ _).alloc (Nat.le_refl _) _).alloc (by simp) _
 have q1:u.heap[w.heap.size]?=some (.cells #[.int .i64 p1.step,.slice Ao1 no1 co1,.slice Av1 nv1 cv1,.slice Ac1 nc1 cc1,.slice Ai1 ni1 ci1] 42):=by rw[←hv];exact (Below.heap_alloc _ _ _ (by simp)).trans (heap_alloc_last w _)
 have q2:u.heap[w.heap.size+1]?=some (.cells #[.int .i64 p2.step,.slice Ao2 no2 co2,.slice Av2 nv2 cv2,.slice Ac2 nc2 cc2,.slice Ai2 ni2 ci2] 42):=by
  rw[←hv]
  have:=heap_alloc_last (w.alloc (.cells #[.int .i64 p1.step,.slice Ao1 no1 co1,.slice Av1 nv1 cv1,.slice Ac1 nc1 cc1,.slice Ai1 ni1 ci1] 42)) (.cells #[.int .i64 p2.step,.slice Ao2 no2 co2,.slice Av2 nv2 cv2,.slice Ac2 nc2 cc2,.slice Ai2 ni2 ci2] 42)
  rw[World.size_alloc] at this
  exact this
 have HB:=hide hb
 have HVB:=hide (show Below w.heap.size w ((w.alloc (.cells #[.int .i64 p1.step,.slice Ao1 no1 co1,.slice Av1 nv1 cv1,.slice Ac1 nc1 cc1,.slice Ai1 ni1 ci1] 42)).alloc (.cells #[.int .i64 p2.step,.slice Ao2 no2 co2,.slice Av2 nv2 cv2,.slice Ac2 nc2 cc2,.slice Ai2 ni2 ci2] 42)) by rw[hv];exact hb)
 have HV:=hide hv
 have HL1:=hide hl1;have HL2:=hide hl2
 have HI1:=hide (hi1.next hb);have HI2:=hide (hi2.next hb)
 have x0:u.cell? ⟨w.heap.size,0,none⟩=some (.int .i64 p1.step):=cell_of_row _ _ 0 _ _ _ q1
 have y0:u.cell? ⟨w.heap.size+1,0,none⟩=some (.int .i64 p2.step):=cell_of_row _ _ 0 _ _ _ q2
 have X1:=hide (show u.cell? ⟨w.heap.size,1,none⟩=some (.slice Ao1 no1 co1) from cell_of_row _ _ 1 _ _ _ q1)
 have Y1:=hide (show u.cell? ⟨w.heap.size+1,1,none⟩=some (.slice Ao2 no2 co2) from cell_of_row _ _ 1 _ _ _ q2)
 have X2:=hide (show u.cell? ⟨w.heap.size,2,none⟩=some (.slice Av1 nv1 cv1) from cell_of_row _ _ 2 _ _ _ q1)
 have Y2:=hide (show u.cell? ⟨w.heap.size+1,2,none⟩=some (.slice Av2 nv2 cv2) from cell_of_row _ _ 2 _ _ _ q2)
 have X3:=hide (show u.cell? ⟨w.heap.size,3,none⟩=some (.slice Ac1 nc1 cc1) from cell_of_row _ _ 3 _ _ _ q1)
 have Y3:=hide (show u.cell? ⟨w.heap.size+1,3,none⟩=some (.slice Ac2 nc2 cc2) from cell_of_row _ _ 3 _ _ _ q2)
 have X4:=hide (show u.cell? ⟨w.heap.size,4,none⟩=some (.slice Ai1 ni1 ci1) from cell_of_row _ _ 4 _ _ _ q1)
 have Y4:=hide (show u.cell? ⟨w.heap.size+1,4,none⟩=some (.slice Ai2 ni2 ci2) from cell_of_row _ _ 4 _ _ _ q2)
 have KU0:=hide (Below.refl u.heap.size u)
 clear q1 q2 hb hv hl1 hl2 hi1 hi2
 by_cases hstep:p1.step=p2.step
 ·have hs2:(p1.step == p2.step)=true:=by simpa using hstep
  have HS:=hide hstep
  clear hstep
  go_enter Tryz.func35,Tryz.ntmps35
  have x1:u.cell? ⟨w.heap.size,1,none⟩=some (.slice Ao1 no1 co1):=(KU0.out.cell (p:=⟨w.heap.size,1,none⟩) (by show w.heap.size<_;omega)).trans X1.out
  have y1:u.cell? ⟨w.heap.size+1,1,none⟩=some (.slice Ao2 no2 co2):=(KU0.out.cell (p:=⟨w.heap.size+1,1,none⟩) (by show w.heap.size+1<_;omega)).trans Y1.out
  go_wp2_with fail
  rw[HV.out]
  refine (equalI_any u Ao1 Ao2 p1.own p2.own no1 no2 co1 co2 HL1.out.1 HL2.out.1 (by omega) (HI1.out.next KU0.out).own (HI2.out.next KU0.out).own).mono ?_
  rintro e z1 ⟨rfl,hz⟩
  have KU1:=hide (KU0.out.trans (hz.mono KU0.out.size))
  have szz1:=KU1.out.size
  clear hz x1 y1
  rcases hq0:eqL p1.own p2.own with _ | _
  ·have HF:Hid (sameS p1 p2=false):=hide (by simp[sameS,hq0])
   have HBf:=hide (HB.out.trans (KU1.out.mono HB.out.size))
   clear hq0
   go_wp2
   go_ret
   exact⟨ret_b HF.out.symm,HBf.out⟩
  have HQ0:=hide hq0
  clear hq0
  have x2:z1.cell? ⟨w.heap.size,2,none⟩=some (.slice Av1 nv1 cv1):=(KU1.out.cell (p:=⟨w.heap.size,2,none⟩) (by show w.heap.size<_;omega)).trans X2.out
  have y2:z1.cell? ⟨w.heap.size+1,2,none⟩=some (.slice Av2 nv2 cv2):=(KU1.out.cell (p:=⟨w.heap.size+1,2,none⟩) (by show w.heap.size+1<_;omega)).trans Y2.out
  go_wp2_with fail
  refine (equalL_anyA z1 Av1 Av2 p1.vals p2.vals nv1 nv2 cv1 cv2 HL1.out.2.1 HL2.out.2.1 (by omega) (HI1.out.next KU1.out).vals (HI2.out.next KU1.out).vals).mono ?_
  rintro e z2 ⟨rfl,hz⟩
  have KU2:=hide (KU1.out.trans (hz.mono KU1.out.size))
  have szz2:=KU2.out.size
  clear hz x2 y2
  rcases hq1:eqL p1.vals p2.vals with _ | _
  ·have HF:Hid (sameS p1 p2=false):=hide (by simp[sameS,hq1])
   have HBf:=hide (HB.out.trans (KU2.out.mono HB.out.size))
   clear hq1
   go_wp2
   go_ret
   exact⟨ret_b HF.out.symm,HBf.out⟩
  have HQ1:=hide hq1
  clear hq1
  have x3:z2.cell? ⟨w.heap.size,3,none⟩=some (.slice Ac1 nc1 cc1):=(KU2.out.cell (p:=⟨w.heap.size,3,none⟩) (by show w.heap.size<_;omega)).trans X3.out
  have y3:z2.cell? ⟨w.heap.size+1,3,none⟩=some (.slice Ac2 nc2 cc2):=(KU2.out.cell (p:=⟨w.heap.size+1,3,none⟩) (by show w.heap.size+1<_;omega)).trans Y3.out
  go_wp2_with fail
  refine (equalB_anyA z2 Ac1 Ac2 p1.chg p2.chg nc1 nc2 cc1 cc2 HL1.out.2.2.1 HL2.out.2.2.1 (by omega) (HI1.out.next KU2.out).chg (HI2.out.next KU2.out).chg).mono ?_
  rintro e z3 ⟨rfl,hz⟩
  have KU3:=hide (KU2.out.trans (hz.mono KU2.out.size))
  have szz3:=KU3.out.size
  clear hz x3 y3
  rcases hq2:eqL p1.chg p2.chg with _ | _
  ·have HF:Hid (sameS p1 p2=false):=hide (by simp[sameS,hq2])
   have HBf:=hide (HB.out.trans (KU3.out.mono HB.out.size))
   clear hq2
   go_wp2
   go_ret
   exact⟨ret_b HF.out.symm,HBf.out⟩
  have HQ2:=hide hq2
  clear hq2
  have x4:z3.cell? ⟨w.heap.size,4,none⟩=some (.slice Ai1 ni1 ci1):=(KU3.out.cell (p:=⟨w.heap.size,4,none⟩) (by show w.heap.size<_;omega)).trans X4.out
  have y4:z3.cell? ⟨w.heap.size+1,4,none⟩=some (.slice Ai2 ni2 ci2):=(KU3.out.cell (p:=⟨w.heap.size+1,4,none⟩) (by show w.heap.size+1<_;omega)).trans Y4.out
  go_wp2_with fail
  refine (isame_anyA z3 Ai1 Ai2 p1.inb p2.inb ni1 ni2 ci1 ci2 HL1.out.2.2.2 HL2.out.2.2.2 (by omega) (HI1.out.next KU3.out).inb (HI2.out.next KU3.out).inb).mono ?_
  rintro e z4 ⟨rfl,hz⟩
  have KU4:=hide (KU3.out.trans (hz.mono KU3.out.size))
  have szz4:=KU4.out.size
  clear hz x4 y4
  rcases hq3:eqL (p1.inb.map nmA) (p2.inb.map nmA) with _ | _
  ·have HF:Hid (sameS p1 p2=false):=hide (by simp[sameS,hq3])
   have HBf:=hide (HB.out.trans (KU4.out.mono HB.out.size))
   clear hq3
   go_wp2
   go_ret
   exact⟨ret_b HF.out.symm,HBf.out⟩
  have HQ3:=hide hq3
  clear hq3
  have HF:Hid (sameS p1 p2=true):=hide (by simp[sameS,HS.out,HQ0.out,HQ1.out,HQ2.out,HQ3.out])
  have HBf:=hide (HB.out.trans (KU4.out.mono HB.out.size))
  go_wp2
  go_ret
  exact⟨ret_b HF.out.symm,HBf.out⟩
 have hs2:(p1.step == p2.step)=false:=by simpa using hstep
 have HF:Hid (sameS p1 p2=false):=hide (by simp[sameS,hstep])
 clear hstep
 go_enter Tryz.func35,Tryz.ntmps35
 go_wp2
 go_ret
 exact⟨ret_b HF.out.symm,HVB.out⟩
end Go.Proofs.YtpojjmbalgmcoaaGreat

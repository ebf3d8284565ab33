/- Lemmas: Sme. -/
import Derived.Test.YtpgbjabifhjogaaGreatProg
import Derived.Lib.Hide
import Derived.Shelf.SlicesE.Kit
import Derived.WalkSpells
import Derived.WalkMore
import Derived.Test.YtpgbjabifhjogaaGreatSkWw4
set_option linter.unusedVariables false
set_option linter.unusedSimpArgs false
set_option maxRecDepth 100000
set_option maxHeartbeats 16000000
namespace Go.Proofs.YtpgbjabifhjogaaGreat
open Go.RowKit
theorem sameEdges_any (w:World) (A B:Option Addr) (xs ys:List Ed) (n m c d:Nat) (hx:xs.length=n) (hy:ys.length=m) (hn:n≤9223372036854775807) (rx:Eds w w.heap.size A xs) (ry:Eds w w.heap.size B ys) :
  Calls Tryz.prog 17 #[.slice A n c,.slice B m d] w fun e w'=>e = .returned (.bool (eqL xs ys))∧Below w.heap.size w w':=by
 have HX:=hide hx
 have HY:=hide hy
 have RX:=hide rx
 have RY:=hide ry
 clear hx hy rx ry
 by_cases hnm:n=m
 ·obtain rfl:=hnm
  go_enter Tryz.func17,Tryz.ntmps17
  go_wp2
  go_loopw [5] (fun vi wr=>∃i:Nat,i≤n∧vi = .int .i64 i∧Hid (eqL xs ys=eqL (xs.drop i) (ys.drop i))∧Hid (Kept w wr)∧Hid (Below w.heap.size w wr)) (fun vi _=>n-(intOf vi).toNat)
  case atStart=>exact⟨0,by omega,rfl,hide rfl,hide (Kept.refl w),hide (Below.refl _ _)⟩
  case round=>
   obtain⟨i,hi,rfl,heq,hkr,hbr⟩:=hrel
   by_cases hlt:i<n
   ·have hi1:i<xs.length:=by rw[HX.out];exact hlt
    have hi2:i<ys.length:=by rw[HY.out];exact hlt
    have HS:=hide (eqL_step xs ys i hi1 hi2)
    obtain⟨b1,o1,rfl,l1,cx0,cx1,cx2,_w1,_w2⟩:=Eds.get RX.out (List.getElem?_eq_getElem hi1)
    obtain⟨b2,o2,rfl,l2,cy0,cy1,cy2,_w3,_w4⟩:=Eds.get RY.out (List.getElem?_eq_getElem hi2)
    obtain⟨x,hx⟩:∃x,xs[i]=x:=⟨_,rfl⟩
    obtain⟨y,hy⟩:∃y,ys[i]=y:=⟨_,rfl⟩
    rw[hx] at cx0 cx1 cx2 HS
    rw[hy] at cy0 cy1 cy2 HS
    obtain⟨x1,x2,x3⟩:=x
    obtain⟨y1,y2,y3⟩:=y
    dsimp only at cx0 cx1 cx2 cy0 cy1 cy2
    have hI0:(0:Int)≤(i:Int):=by omega
    have hI1:(i:Int)<(n:Int):=by omega
    clear hx hy hi1 hi2 _w1 _w2 _w3 _w4
    by_cases hxy:((x1,x2,x3):Ed)=(y1,y2,y3)
    ·have HE:Hid (eqL xs ys=eqL (xs.drop (i+1)) (ys.drop (i+1))):=hide (by rw[heq.out,HS.out,decide_eq_true hxy,Bool.true_and])
     injection hxy with hxy1 hxy2
     injection hxy2 with hxy2 hxy3
     subst hxy1 hxy2 hxy3
     go_wp2
     refine wp_region_held_drew (S:=Kept w) (by kernel_rfl) (fun p hp=>hkr.out p hp) (fun hS0=>?_)
     refine tka 0 17 ?_
     refine tka 1 18 ?_
     refine tka 2 19 ?_
     refine tka 3 20 ?_
     refine tka 4 21 ?_
     refine tka 5 22 ?_
     refine tka 6 23 ?_
     refine tka 7 24 ?_
     refine tka 8 25 ?_
     refine wpAnyH_done (by kernel_rfl) ?_ _
     go_wp2
     go_roundw
     case rel=>exact⟨i+1,by omega,by go_num,HE,hide (fun p hp=>hkr.out p hp),hide hbr.out.drew⟩
     case measure=>simp[intOf];omega
    have HE:Hid (eqL xs ys=false):=hide (by rw[heq.out,HS.out,decide_eq_false hxy,Bool.false_and])
    have HXY:Hid (¬(x1=y1∧x2=y2∧x3=y3)):=hide (fun h=>hxy (by rw[h.1,h.2.1,h.2.2]))
    clear hxy
    go_wp2
    refine wp_region_held_drew (S:=Kept w) (by kernel_rfl) (fun p hp=>hkr.out p hp) (fun hS0=>?_)
    refine tka 0 17 ?_
    refine tka 1 18 ?_
    refine tka 2 19 ?_
    refine tka 3 20 ?_
    refine tka 4 21 ?_
    refine tka 5 22 ?_
    refine tka 6 23 ?_
    refine tka 7 24 ?_
    refine tk 8 25 ?_ ?_ ?_;rotate_left;(focus (intro w hSw;go_simp;show _=Result.ok (Next.value (Value.bool true)) w;(by_cases q1:x1=y1 <;> by_cases q2:x2=y2 <;> by_cases q3:x3=y3 <;> first | (simp[q1,q2,q3];done) | (exact absurd (And.intro q1 (And.intro q2 q3)) HXY.out));done));(try simp only[zqd,zqe,zqf])
    refine wpAnyH_done (by kernel_rfl) ?_ _
    go_wp2
    go_ret
    exact⟨ret_b (by rw[HE.out]),hbr.out.drew⟩
   obtain rfl:i=n:=by omega
   have HE:Hid (eqL xs ys=true):=hide (by rw[heq.out,List.drop_of_length_le (by have:=HX.out;omega),List.drop_of_length_le (by have:=HY.out;omega)];exact eqL_nil)
   go_wp2
   go_ret
   exact⟨ret_b (by rw[HE.out]),hbr.out⟩
 have hne:((n:Int) == (m:Int))=false:=by simp;omega
 have hne2:((n:Int) != (m:Int))=true:=by simp;omega
 have HE:Hid (eqL xs ys=false):=hide (eqL_len (by rw[HX.out,HY.out];exact hnm))
 go_enter Tryz.func17,Tryz.ntmps17
 go_wp2
 go_ret
 exact⟨ret_b (by rw[HE.out]),Below.refl _ _⟩
end Go.Proofs.YtpgbjabifhjogaaGreat

/- Lemmas: Rob, Eqr, Req. -/
import Derived.Test.YtpgbjabifhjogaaGreatProg
import Derived.Lib.Hide
import Derived.WalkSpells
import Derived.WalkMore
import Derived.IntWalk
import Derived.Test.YtpgbjabifhjogaaGreatSkWw4
import Derived.Test.YtpgbjabifhjogaaGreatSkWw6
set_option linter.unusedVariables false
set_option linter.unusedSimpArgs false
set_option maxRecDepth 100000
set_option maxHeartbeats 16000000
namespace Go.Proofs.YtpgbjabifhjogaaGreat
open Go.RowKit
def RowPost (w:World) (es:List Ed) (e:Ending) (w':World):Prop:=∃A c,e = .returned (.slice A es.length c)∧w'.ownsRow w.heap.size 58 3 (.slice A es.length c) es.length (edFlat es)∧Below w.heap.size w w'
theorem ownsRow_lower {w:World} {base base':Nat} {e:TypeId} {size:Nat} {v:Value} {n:Nat} {xs:List Value} (h:w.ownsRow base e size v n xs) (hb:base'≤base):w.ownsRow base' e size v n xs:=
 ⟨h.1,h.2.imp id fun⟨g,cap,cur,h1,h2,h3⟩=>⟨g,cap,cur,h1,Nat.le_trans hb h2,h3⟩⟩
def fromF (es:List Ed) (v:Int):List Ed:=es.filter fun e=>e.1 == v
def toF (es:List Ed) (v:Int):List Ed:=es.filter fun e=>e.2.1 == v
theorem filt_step {f:Ed→Bool} {es:List Ed} {k:Nat} {e:Ed} (h:es[k]?=some e):(es.take (k+1)).filter f=(es.take k).filter f ++ (if f e then [e] else []):=by
 rw[List.take_add_one,h,List.filter_append]
 congr 1
 simp only[Option.toList_some,List.filter_cons,List.filter_nil]
theorem rout_any (w:World) (V:Int) (A:Option Addr) (es:List Ed) (L c:Nat) (v:Int) (hL:es.length=L) (hE:Eds w w.heap.size A es) (hc:L≤8192) :
  Calls Tryz.prog 61 #[.agg #[.int .i64 V,.slice A L c],.int .i64 v] w (RowPost w (fromF es v)):=by
 obtain⟨i0,hi0,hz0,hz1,hz2⟩:=info_parts (show (Tryz.prog.info? 58).map (fun i=>(i.zero,i.size,i.bytes))=some (some (.agg #[.int .i64 0,.int .i64 0,.int .i64 0]),3,24) by kernel_rfl)
 obtain⟨u,hu⟩:∃u,w.alloc (.cells #[.int .i64 V,.slice A L c] 24)=u:=⟨_,rfl⟩
 have hzu:u.heap.size=w.heap.size+1:=by rw[←hu];simp
 have hbu:Below w.heap.size w u:=by rw[←hu];exact (Below.refl _ _).alloc (Nat.le_refl _) _
 have cg:u.heap[w.heap.size]?=some (.cells #[.int .i64 V,.slice A L c] 24):=by rw[←hu];exact heap_alloc_last w _
 have cg1:u.cell? ⟨w.heap.size,1,none⟩=some (.slice A L c):=cell_of_row _ _ 1 _ _ _ cg
 have hlg:w.heap.size<u.heap.size:=by omega
 have HL:=hide hL
 have EU:=hide (hE.below hbu (Nat.le_refl _))
 have HB:=hide hbu
 have HU:=hide hu
 clear hu hzu hbu cg hE hL
 go_enter Tryz.func61,Tryz.ntmps61
 go_wp2
 rw[HU.out]
 go_loopw [5,6] (fun v5 v6 wr=>∃(k n:Nat) (A':Option Addr) (c':Nat),k≤L∧n≤k∧v6 = .int .i64 k∧v5 = .slice A' n c'∧Hid (((es.take k).filter (fun e=>e.1 == v)).length=n)∧Hid (wr.ownsRow u.heap.size 58 3 (.slice A' n c') n (edFlat ((es.take k).filter (fun e=>e.1 == v))))∧Hid (Kept u wr)∧Hid (Below u.heap.size u wr)∧u.heap.size≤wr.heap.size) (fun _ v6 _=>L-(intOf v6).toNat)
 case atStart=>exact⟨0,0,none,0,by omega,by omega,rfl,rfl,hide rfl,hide (World.ownsRow_nil _ _ _ _),hide (Kept.refl u),hide (Below.refl _ _),Nat.le_refl _⟩
 case round=>
  obtain⟨k,n,A',c',hk,hn,rfl,rfl,hlen,hown,hk1,hb1,hs1⟩:=hrel
  have a1:=(hk1.out ⟨w.heap.size,1,none⟩ hlg).trans cg1
  by_cases hlt:k<L
  ·obtain⟨⟨x,y,z⟩,he⟩:∃e,es[k]?=some e:=⟨_,List.getElem?_eq_getElem (by rw[HL.out];exact hlt)⟩
   obtain⟨b,off,rfl,hbl,d0,d1,d2,d3,d4⟩:=EU.out.get he
   have d0:=(hk1.out ⟨b,off+k*3,none⟩ (by show b<_;omega)).trans d0
   have d1:=(hk1.out ⟨b,off+k*3+1,none⟩ (by show b<_;omega)).trans d1
   have d2:=(hk1.out ⟨b,off+k*3+2,none⟩ (by show b<_;omega)).trans d2
   have hst:=hide (filt_step (f:=fun e=>e.1 == v) he)
   have hI0:(k:Int)<(L:Int):=by omega
   clear he
   dsimp only at d0 d1 d2 d3 d4
   by_cases hxy:x=v
   ·subst hxy
    have hfe:Hid ((es.take (k+1)).filter (fun e=>e.1 == x)=(es.take k).filter (fun e=>e.1 == x) ++ [(x,y,z)]):=hide (by rw[hst.out];simp)
    go_wp2_with (at_builtin;refine wpList_app rfl (.tmp 22) (.tmp 28) 22 rfl u.heap.size 58 i0 (.agg #[.int .i64 0,.int .i64 0,.int .i64 0]) 3 24 Tryz.underlying22 hi0 hz0 hz1 hz2 rfl (by decide) (.slice A' n c') n _ rfl (hown.out.alloc _) (wr.heap.size+1) (some ⟨wr.heap.size,0,none⟩) 1 1 [.int .i64 x,.int .i64 y,.int .i64 z] rfl rfl (Rd.new _ _ _ _) (by simp[Value.oneCell']) (by unfold maxLen;omega) (by omega) (by simp;omega) ?_)
    intro A2 c2 w2 hown2 hg2 hat2
    have ho2:Hid (w2.ownsRow u.heap.size 58 3 (.slice A2 (n+1) c2) (n+1) (edFlat ((es.take (k+1)).filter (fun e=>e.1 == x)))):=hide (by rw[hfe.out,←edFlat_app];exact hown2)
    have hl2:Hid (((es.take (k+1)).filter (fun e=>e.1 == x)).length=n+1):=hide (by rw[hfe.out,List.length_append,hlen.out];rfl)
    have hb2:=hide (app_below (hb1.out.alloc hs1 _) (hown.out.alloc _) hg2 (by simp;omega) (Nat.le_refl _))
    have hk2:Hid (Kept u w2):=hide (Kept.of_below hb2.out)
    have hs2:u.heap.size≤w2.heap.size:=hb2.out.size
    clear hown2 hg2 hat2 a1 d0 d1 d2
    go_wp2
    go_roundw
    case rel=>exact⟨k+1,n+1,A2,c2,by omega,by omega,by go_num,rfl,hl2,ho2,hk2,hb2,hs2⟩
    case measure=>simp[intOf];omega
   have hne:(x == v)=false:=by simp only[beq_eq_false_iff_ne,ne_eq];exact hxy
   have hfe:Hid ((es.take (k+1)).filter (fun e=>e.1 == v)=(es.take k).filter (fun e=>e.1 == v)):=hide (by rw[hst.out];simp[hne])
   have ho2:Hid (wr.ownsRow u.heap.size 58 3 (.slice A' n c') n (edFlat ((es.take (k+1)).filter (fun e=>e.1 == v)))):=hide (by rw[hfe.out];exact hown.out)
   have hl2:Hid (((es.take (k+1)).filter (fun e=>e.1 == v)).length=n):=hide (by rw[hfe.out];exact hlen.out)
   go_wp2
   go_roundw
   case rel=>exact⟨k+1,n,A',c',by omega,by omega,by go_num,rfl,hl2,ho2,hk1,hb1,hs1⟩
   case measure=>simp[intOf];omega
  obtain rfl:k=L:=by omega
  have hfe:(es.take k).filter (fun e=>e.1 == v)=fromF es v:=by rw[List.take_of_length_le (by rw[HL.out];exact Nat.le_refl _)];rfl
  rw[hfe] at hlen hown
  have HFin:Hid (RowPost w (fromF es v) (.returned (.slice A' n c')) wr):=hide ⟨A',c',by rw[hlen.out],by rw[hlen.out];exact ownsRow_lower hown.out (by have:=HB.out.size;omega),HB.out.trans (hb1.out.mono HB.out.size)⟩
  clear hlen hown hfe
  go_wp2
  go_ret
  exact HFin.out
theorem rback_any (w:World) (V:Int) (A:Option Addr) (es:List Ed) (L c:Nat) (v:Int) (hL:es.length=L) (hE:Eds w w.heap.size A es) (hc:L≤8192) :
  Calls Tryz.prog 63 #[.agg #[.int .i64 V,.slice A L c],.int .i64 v] w (RowPost w (toF es v)):=by
 obtain⟨i0,hi0,hz0,hz1,hz2⟩:=info_parts (show (Tryz.prog.info? 58).map (fun i=>(i.zero,i.size,i.bytes))=some (some (.agg #[.int .i64 0,.int .i64 0,.int .i64 0]),3,24) by kernel_rfl)
 obtain⟨u,hu⟩:∃u,w.alloc (.cells #[.int .i64 V,.slice A L c] 24)=u:=⟨_,rfl⟩
 have hzu:u.heap.size=w.heap.size+1:=by rw[←hu];simp
 have hbu:Below w.heap.size w u:=by rw[←hu];exact (Below.refl _ _).alloc (Nat.le_refl _) _
 have cg:u.heap[w.heap.size]?=some (.cells #[.int .i64 V,.slice A L c] 24):=by rw[←hu];exact heap_alloc_last w _
 have cg1:u.cell? ⟨w.heap.size,1,none⟩=some (.slice A L c):=cell_of_row _ _ 1 _ _ _ cg
 have hlg:w.heap.size<u.heap.size:=by omega
 have HL:=hide hL
 have EU:=hide (hE.below hbu (Nat.le_refl _))
 have HB:=hide hbu
 have HU:=hide hu
 clear hu hzu hbu cg hE hL
 go_enter Tryz.func63,Tryz.ntmps63
 go_wp2
 rw[HU.out]
 go_loopw [5,6] (fun v5 v6 wr=>∃(k n:Nat) (A':Option Addr) (c':Nat),k≤L∧n≤k∧v6 = .int .i64 k∧v5 = .slice A' n c'∧Hid (((es.take k).filter (fun e=>e.2.1 == v)).length=n)∧Hid (wr.ownsRow u.heap.size 58 3 (.slice A' n c') n (edFlat ((es.take k).filter (fun e=>e.2.1 == v))))∧Hid (Kept u wr)∧Hid (Below u.heap.size u wr)∧u.heap.size≤wr.heap.size) (fun _ v6 _=>L-(intOf v6).toNat)
 case atStart=>exact⟨0,0,none,0,by omega,by omega,rfl,rfl,hide rfl,hide (World.ownsRow_nil _ _ _ _),hide (Kept.refl u),hide (Below.refl _ _),Nat.le_refl _⟩
 case round=>
  obtain⟨k,n,A',c',hk,hn,rfl,rfl,hlen,hown,hk1,hb1,hs1⟩:=hrel
  have a1:=(hk1.out ⟨w.heap.size,1,none⟩ hlg).trans cg1
  by_cases hlt:k<L
  ·obtain⟨⟨x,y,z⟩,he⟩:∃e,es[k]?=some e:=⟨_,List.getElem?_eq_getElem (by rw[HL.out];exact hlt)⟩
   obtain⟨b,off,rfl,hbl,d0,d1,d2,d3,d4⟩:=EU.out.get he
   have d0:=(hk1.out ⟨b,off+k*3,none⟩ (by show b<_;omega)).trans d0
   have d1:=(hk1.out ⟨b,off+k*3+1,none⟩ (by show b<_;omega)).trans d1
   have d2:=(hk1.out ⟨b,off+k*3+2,none⟩ (by show b<_;omega)).trans d2
   have hst:=hide (filt_step (f:=fun e=>e.2.1 == v) he)
   have hI0:(k:Int)<(L:Int):=by omega
   clear he
   dsimp only at d0 d1 d2 d3 d4
   by_cases hxy:y=v
   ·subst hxy
    have hfe:Hid ((es.take (k+1)).filter (fun e=>e.2.1 == y)=(es.take k).filter (fun e=>e.2.1 == y) ++ [(x,y,z)]):=hide (by rw[hst.out];simp)
    go_wp2_with (at_builtin;refine wpList_app rfl (.tmp 22) (.tmp 28) 22 rfl u.heap.size 58 i0 (.agg #[.int .i64 0,.int .i64 0,.int .i64 0]) 3 24 Tryz.underlying22 hi0 hz0 hz1 hz2 rfl (by decide) (.slice A' n c') n _ rfl (hown.out.alloc _) (wr.heap.size+1) (some ⟨wr.heap.size,0,none⟩) 1 1 [.int .i64 x,.int .i64 y,.int .i64 z] rfl rfl (Rd.new _ _ _ _) (by simp[Value.oneCell']) (by unfold maxLen;omega) (by omega) (by simp;omega) ?_)
    intro A2 c2 w2 hown2 hg2 hat2
    have ho2:Hid (w2.ownsRow u.heap.size 58 3 (.slice A2 (n+1) c2) (n+1) (edFlat ((es.take (k+1)).filter (fun e=>e.2.1 == y)))):=hide (by rw[hfe.out,←edFlat_app];exact hown2)
    have hl2:Hid (((es.take (k+1)).filter (fun e=>e.2.1 == y)).length=n+1):=hide (by rw[hfe.out,List.length_append,hlen.out];rfl)
    have hb2:=hide (app_below (hb1.out.alloc hs1 _) (hown.out.alloc _) hg2 (by simp;omega) (Nat.le_refl _))
    have hk2:Hid (Kept u w2):=hide (Kept.of_below hb2.out)
    have hs2:u.heap.size≤w2.heap.size:=hb2.out.size
    clear hown2 hg2 hat2 a1 d0 d1 d2
    go_wp2
    go_roundw
    case rel=>exact⟨k+1,n+1,A2,c2,by omega,by omega,by go_num,rfl,hl2,ho2,hk2,hb2,hs2⟩
    case measure=>simp[intOf];omega
   have hne:(y == v)=false:=by simp only[beq_eq_false_iff_ne,ne_eq];exact hxy
   have hfe:Hid ((es.take (k+1)).filter (fun e=>e.2.1 == v)=(es.take k).filter (fun e=>e.2.1 == v)):=hide (by rw[hst.out];simp[hne])
   have ho2:Hid (wr.ownsRow u.heap.size 58 3 (.slice A' n c') n (edFlat ((es.take (k+1)).filter (fun e=>e.2.1 == v)))):=hide (by rw[hfe.out];exact hown.out)
   have hl2:Hid (((es.take (k+1)).filter (fun e=>e.2.1 == v)).length=n):=hide (by rw[hfe.out];exact hlen.out)
   go_wp2
   go_roundw
   case rel=>exact⟨k+1,n,A',c',by omega,by omega,by go_num,rfl,hl2,ho2,hk1,hb1,hs1⟩
   case measure=>simp[intOf];omega
  obtain rfl:k=L:=by omega
  have hfe:(es.take k).filter (fun e=>e.2.1 == v)=toF es v:=by rw[List.take_of_length_le (by rw[HL.out];exact Nat.le_refl _)];rfl
  rw[hfe] at hlen hown
  have HFin:Hid (RowPost w (toF es v) (.returned (.slice A' n c')) wr):=hide ⟨A',c',by rw[hlen.out],by rw[hlen.out];exact ownsRow_lower hown.out (by have:=HB.out.size;omega),HB.out.trans (hb1.out.mono HB.out.size)⟩
  clear hlen hown hfe
  go_wp2
  go_ret
  exact HFin.out
def nm (m:Ml):Ml:=if m.1 then m else (false,0)
theorem bools_get? {l:List Bool} {i:Nat} {x:Bool} (h:l[i]?=some x):(bools l)[i]?=some (.bool x):=by simp[bools,h]
theorem equalL_any (w:World) (A B:Option Addr) (xs ys:List Int) (n m c d:Nat) (hx:xs.length=n) (hy:ys.length=m) (hn:n≤9223372036854775807) (rx:Rd w w.heap.size A (i64s xs)) (ry:Rd w w.heap.size B (i64s ys)) :
  Calls Tryz.prog 47 #[.slice A n c,.slice B m d] w fun e w'=>e = .returned (.bool (eqL xs ys))∧Below w.heap.size w w':=by
 have HX:=hide hx
 have HY:=hide hy
 have RX:=hide rx
 have RY:=hide ry
 clear hx hy rx ry
 by_cases hnm:n=m
 ·obtain rfl:=hnm
  go_enter Tryz.func47,Tryz.ntmps47
  go_wp2
  go_loopw [13] (fun vi wr=>∃i:Nat,i≤n∧vi = .int .i64 i∧Hid (eqL xs ys=eqL (xs.drop i) (ys.drop i))∧Hid (Kept w wr)∧Hid (Below w.heap.size w wr)) (fun vi _=>n-(intOf vi).toNat)
  case atStart=>exact⟨0,by omega,rfl,hide rfl,hide (Kept.refl w),hide (Below.refl _ _)⟩
  case round=>
   obtain⟨i,hi,rfl,heq,hkr,hbr⟩:=hrel
   by_cases hlt:i<n
   ·have hi1:i<xs.length:=by rw[HX.out];exact hlt
    have hi2:i<ys.length:=by rw[HY.out];exact hlt
    have HS:=hide (eqL_step xs ys i hi1 hi2)
    obtain⟨b1,o1,rfl,l1,cx⟩:=RX.out.at1 (i:=i) (i64s_get (List.getElem?_eq_getElem hi1))
    obtain⟨b2,o2,rfl,l2,cy⟩:=RY.out.at1 (i:=i) (i64s_get (List.getElem?_eq_getElem hi2))
    obtain⟨x,hx⟩:∃x,xs[i]=x:=⟨_,rfl⟩
    obtain⟨y,hy⟩:∃y,ys[i]=y:=⟨_,rfl⟩
    rw[hx] at cx HS
    rw[hy] at cy HS
    have hI0:(0:Int)≤(i:Int):=by omega
    have hI1:(i:Int)<(n:Int):=by omega
    clear hx hy hi1 hi2
    by_cases hxy:x=y
    ·have HE:Hid (eqL xs ys=eqL (xs.drop (i+1)) (ys.drop (i+1))):=hide (by rw[heq.out,HS.out,hxy,decide_eq_true rfl,Bool.true_and])
     subst hxy
     skip
     all_goals
      go_wp2
      refine wp_region_held_drew (S:=Kept w) (by kernel_rfl) (fun p hp=>hkr.out p hp) (fun hS0=>?_)
      refine tka 0 16 ?_
      refine tka 1 17 ?_
      refine tka 2 18 ?_
      refine tka 3 19 ?_
      refine tka 4 20 ?_
      refine tka 5 21 ?_
      refine tka 6 22 ?_
      refine tka 7 23 ?_
      refine tka 8 24 ?_
      refine wpAnyH_done (by kernel_rfl) ?_ _
      clear hS0
      go_wp2
      go_roundw
      case rel=>exact⟨i+1,by omega,by go_num,HE,hide (fun p hp=>hkr.out p hp),hide hbr.out.drew⟩
      case measure=>simp[intOf];omega
    have HE:Hid (eqL xs ys=false):=hide (by rw[heq.out,HS.out,decide_eq_false hxy,Bool.false_and])
    skip
    all_goals
     go_wp2
     refine wp_region_held_drew (S:=Kept w) (by kernel_rfl) (fun p hp=>hkr.out p hp) (fun hS0=>?_)
     refine tka 0 16 ?_
     refine tka 1 17 ?_
     refine tka 2 18 ?_
     refine tka 3 19 ?_
     refine tka 4 20 ?_
     refine tka 5 21 ?_
     refine tka 6 22 ?_
     refine tka 7 23 ?_
     refine tka 8 24 ?_
     refine wpAnyH_done (by kernel_rfl) ?_ _
     clear hS0
     go_wp2
     go_ret
     exact⟨ret_b (by rw[HE.out]),hbr.out.drew⟩
   obtain rfl:i=n:=by omega
   have HE:Hid (eqL xs ys=true):=hide (by rw[heq.out,List.drop_of_length_le (by have:=HX.out;omega),List.drop_of_length_le (by have:=HY.out;omega)];exact eqL_nil)
   go_wp2
   go_ret
   exact⟨ret_b (by rw[HE.out]),hbr.out⟩
 have HE:Hid (eqL xs ys=false):=hide (eqL_len (by rw[HX.out,HY.out];exact hnm))
 have hne:((n:Int) == (m:Int))=false:=by simp;omega
 have hne2:((n:Int) != (m:Int))=true:=by simp;omega
 go_enter Tryz.func47,Tryz.ntmps47
 go_wp2
 go_ret
 exact⟨ret_b (by rw[HE.out]),Below.refl _ _⟩
theorem equalB_any (w:World) (A B:Option Addr) (xs ys:List Bool) (n m c d:Nat) (hx:xs.length=n) (hy:ys.length=m) (hn:n≤9223372036854775807) (rx:Rd w w.heap.size A (bools xs)) (ry:Rd w w.heap.size B (bools ys)) :
  Calls Tryz.prog 48 #[.slice A n c,.slice B m d] w fun e w'=>e = .returned (.bool (eqL xs ys))∧Below w.heap.size w w':=by
 have HX:=hide hx
 have HY:=hide hy
 have RX:=hide rx
 have RY:=hide ry
 clear hx hy rx ry
 by_cases hnm:n=m
 ·obtain rfl:=hnm
  go_enter Tryz.func48,Tryz.ntmps48
  go_wp2
  go_loopw [13] (fun vi wr=>∃i:Nat,i≤n∧vi = .int .i64 i∧Hid (eqL xs ys=eqL (xs.drop i) (ys.drop i))∧Hid (Kept w wr)∧Hid (Below w.heap.size w wr)) (fun vi _=>n-(intOf vi).toNat)
  case atStart=>exact⟨0,by omega,rfl,hide rfl,hide (Kept.refl w),hide (Below.refl _ _)⟩
  case round=>
   obtain⟨i,hi,rfl,heq,hkr,hbr⟩:=hrel
   by_cases hlt:i<n
   ·have hi1:i<xs.length:=by rw[HX.out];exact hlt
    have hi2:i<ys.length:=by rw[HY.out];exact hlt
    have HS:=hide (eqL_step xs ys i hi1 hi2)
    obtain⟨b1,o1,rfl,l1,cx⟩:=RX.out.at1 (i:=i) (bools_get? (List.getElem?_eq_getElem hi1))
    obtain⟨b2,o2,rfl,l2,cy⟩:=RY.out.at1 (i:=i) (bools_get? (List.getElem?_eq_getElem hi2))
    obtain⟨x,hx⟩:∃x,xs[i]=x:=⟨_,rfl⟩
    obtain⟨y,hy⟩:∃y,ys[i]=y:=⟨_,rfl⟩
    rw[hx] at cx HS
    rw[hy] at cy HS
    have hI0:(0:Int)≤(i:Int):=by omega
    have hI1:(i:Int)<(n:Int):=by omega
    clear hx hy hi1 hi2
    by_cases hxy:x=y
    ·have HE:Hid (eqL xs ys=eqL (xs.drop (i+1)) (ys.drop (i+1))):=hide (by rw[heq.out,HS.out,hxy,decide_eq_true rfl,Bool.true_and])
     subst hxy
     cases x
     all_goals
      go_wp2
      refine wp_region_held_drew (S:=Kept w) (by kernel_rfl) (fun p hp=>hkr.out p hp) (fun hS0=>?_)
      refine tka 0 16 ?_
      refine tka 1 17 ?_
      refine tka 2 18 ?_
      refine tka 3 19 ?_
      refine tka 4 20 ?_
      refine tka 5 21 ?_
      refine tka 6 22 ?_
      refine tka 7 23 ?_
      refine tka 8 24 ?_
      refine wpAnyH_done (by kernel_rfl) ?_ _
      clear hS0
      go_wp2
      go_roundw
      case rel=>exact⟨i+1,by omega,by go_num,HE,hide (fun p hp=>hkr.out p hp),hide hbr.out.drew⟩
      case measure=>simp[intOf];omega
    have HE:Hid (eqL xs ys=false):=hide (by rw[heq.out,HS.out,decide_eq_false hxy,Bool.false_and])
    cases x <;> cases y <;> (first | exact absurd rfl hxy | skip)
    all_goals
     go_wp2
     refine wp_region_held_drew (S:=Kept w) (by kernel_rfl) (fun p hp=>hkr.out p hp) (fun hS0=>?_)
     refine tka 0 16 ?_
     refine tka 1 17 ?_
     refine tka 2 18 ?_
     refine tka 3 19 ?_
     refine tka 4 20 ?_
     refine tka 5 21 ?_
     refine tka 6 22 ?_
     refine tka 7 23 ?_
     refine tka 8 24 ?_
     refine wpAnyH_done (by kernel_rfl) ?_ _
     clear hS0
     go_wp2
     go_ret
     exact⟨ret_b (by rw[HE.out]),hbr.out.drew⟩
   obtain rfl:i=n:=by omega
   have HE:Hid (eqL xs ys=true):=hide (by rw[heq.out,List.drop_of_length_le (by have:=HX.out;omega),List.drop_of_length_le (by have:=HY.out;omega)];exact eqL_nil)
   go_wp2
   go_ret
   exact⟨ret_b (by rw[HE.out]),hbr.out⟩
 have HE:Hid (eqL xs ys=false):=hide (eqL_len (by rw[HX.out,HY.out];exact hnm))
 have hne:((n:Int) == (m:Int))=false:=by simp;omega
 have hne2:((n:Int) != (m:Int))=true:=by simp;omega
 go_enter Tryz.func48,Tryz.ntmps48
 go_wp2
 go_ret
 exact⟨ret_b (by rw[HE.out]),Below.refl _ _⟩
theorem mlsame_any (w:World) (a b:Bool) (x y:Int):Calls Tryz.prog 76 #[.agg #[.bool a,.int .i64 x],.agg #[.bool b,.int .i64 y]] w fun e w'=>e = .returned (.bool (decide (nm (a,x)=nm (b,y))))∧Below w.heap.size w w':=by
 have HB:=hide (show Below w.heap.size w ((w.alloc (.cells #[.bool a,.int .i64 x] 76)).alloc (.cells #[.bool b,.int .i64 y] 76)) from ((Below.refl _ _).alloc (Nat.le_refl _) _).alloc (by simp) _)
 rcases a with _ | _ <;> rcases b with _ | _
 ·go_enter Tryz.func76,Tryz.ntmps76
  go_wp2
  go_ret
  exact⟨ret_b (by simp[nm]),HB.out⟩
 ·go_enter Tryz.func76,Tryz.ntmps76
  go_wp2
  go_ret
  exact⟨ret_b (by simp[nm]),HB.out⟩
 ·go_enter Tryz.func76,Tryz.ntmps76
  go_wp2
  go_ret
  exact⟨ret_b (by simp[nm]),HB.out⟩
 by_cases hxy:x=y
 ·subst hxy
  go_enter Tryz.func76,Tryz.ntmps76
  go_wp2
  go_ret
  exact⟨ret_b (by simp),HB.out⟩
 have hxy':(x == y)=false:=by simp only[beq_eq_false_iff_ne,ne_eq];exact hxy
 have HE:Hid (decide (nm (true,x)=nm (true,y))=false):=hide (by simp[nm,hxy])
 clear hxy
 go_enter Tryz.func76,Tryz.ntmps76
 go_wp2
 go_ret
 exact⟨ret_b HE.out.symm,HB.out⟩
theorem equalM_any (w:World) (A B:Option Addr) (xs ys:List Ml) (n m c d:Nat) (hx:xs.length=n) (hy:ys.length=m) (hn:n≤9223372036854775807) (rx:Rd w w.heap.size A (mlFlat xs)) (ry:Rd w w.heap.size B (mlFlat ys)) :
  Calls Tryz.prog 75 #[.slice A n c,.slice B m d,.func (.func 76) #[] #[]] w fun e w'=>e = .returned (.bool (eqL (xs.map nm) (ys.map nm)))∧Below w.heap.size w w':=by
 have HX:=hide hx
 have HY:=hide hy
 have RX:=hide rx
 have RY:=hide ry
 clear hx hy rx ry
 by_cases hnm:n=m
 ·obtain rfl:=hnm
  go_enter Tryz.func75,Tryz.ntmps75
  go_wp2
  go_loopw [17] (fun vi wr=>∃i:Nat,i≤n∧vi = .int .i64 i∧Hid (eqL (xs.map nm) (ys.map nm)=eqL ((xs.map nm).drop i) ((ys.map nm).drop i))∧Hid (Below w.heap.size w wr)) (fun vi _=>n-(intOf vi).toNat)
  case atStart=>exact⟨0,by omega,rfl,hide rfl,hide (Below.refl _ _)⟩
  case round=>
   obtain⟨i,hi,rfl,heq,hbr⟩:=hrel
   by_cases hlt:i<n
   ·have hi1:i<xs.length:=by rw[HX.out];exact hlt
    have hi2:i<ys.length:=by rw[HY.out];exact hlt
    have HS:=hide (eqL_step (xs.map nm) (ys.map nm) i (by rw[List.length_map];exact hi1) (by rw[List.length_map];exact hi2))
    obtain⟨b1,o1,rfl,l1,cx0,cx1⟩:=RX.out.ml (List.getElem?_eq_getElem hi1)
    obtain⟨b2,o2,rfl,l2,cy0,cy1⟩:=RY.out.ml (List.getElem?_eq_getElem hi2)
    rw[List.getElem_map,List.getElem_map] at HS
    obtain⟨x,hx⟩:∃x,xs[i]=x:=⟨_,rfl⟩
    obtain⟨y,hy⟩:∃y,ys[i]=y:=⟨_,rfl⟩
    rw[hx] at cx0 cx1 HS
    rw[hy] at cy0 cy1 HS
    clear hx hy hi1 hi2
    obtain⟨a,x⟩:=x
    obtain⟨b,y⟩:=y
    have cx0:=(hbr.out.cell (p:=⟨b1,o1+i*2,none⟩) l1).trans cx0
    have cx1:=(hbr.out.cell (p:=⟨b1,o1+i*2+1,none⟩) l1).trans cx1
    have cy0:=(hbr.out.cell (p:=⟨b2,o2+i*2,none⟩) l2).trans cy0
    have cy1:=(hbr.out.cell (p:=⟨b2,o2+i*2+1,none⟩) l2).trans cy1
    dsimp only at cx0 cx1 cy0 cy1
    have hs:=hbr.out.size
    have l1:b1<wr.heap.size:=by omega
    have l2:b2<wr.heap.size:=by omega
    have hI0:(0:Int)≤(i:Int):=by omega
    have hI1:(i:Int)<(n:Int):=by omega
    rcases hq:decide (nm (a,x)=nm (b,y)) with _ | _
    ·have HQ:=hide hq
     have HE:Hid (eqL (xs.map nm) (ys.map nm)=false):=hide (by rw[heq.out,HS.out,hq,Bool.false_and])
     clear hq
     go_wp2_with fail
     refine (mlsame_any _ a b x y).mono ?_
     rintro e z ⟨rfl,hz⟩
     rw[HQ.out]
     have hB:=hide (((hbr.out.alloc hbr.out.size (.cells #[.bool a,.int .i64 x] 76)).alloc (by have:=hbr.out.size;simp;omega) (.cells #[.bool b,.int .i64 y] 76)).trans (hz.mono (by have:=hbr.out.size;simp;omega)))
     clear hz
     go_wp2
     go_ret
     exact⟨ret_b (by rw[HE.out]),hB.out⟩
    have HQ:=hide hq
    have HE:Hid (eqL (xs.map nm) (ys.map nm)=eqL ((xs.map nm).drop (i+1)) ((ys.map nm).drop (i+1))):=hide (by rw[heq.out,HS.out,hq,Bool.true_and])
    clear hq
    go_wp2_with fail
    refine (mlsame_any _ a b x y).mono ?_
    rintro e z ⟨rfl,hz⟩
    rw[HQ.out]
    have hB:=hide (((hbr.out.alloc hbr.out.size (.cells #[.bool a,.int .i64 x] 76)).alloc (by have:=hbr.out.size;simp;omega) (.cells #[.bool b,.int .i64 y] 76)).trans (hz.mono (by have:=hbr.out.size;simp;omega)))
    clear hz
    go_wp2
    go_roundw
    case rel=>exact⟨i+1,by omega,by go_num,HE,hB⟩
    case measure=>simp[intOf];omega
   obtain rfl:i=n:=by omega
   have HE:Hid (eqL (xs.map nm) (ys.map nm)=true):=hide (by rw[heq.out,List.drop_of_length_le (by have:=HX.out;rw[List.length_map];omega),List.drop_of_length_le (by have:=HY.out;rw[List.length_map];omega)];exact eqL_nil)
   go_wp2
   go_ret
   exact⟨ret_b (by rw[HE.out]),hbr.out⟩
 have HE:Hid (eqL (xs.map nm) (ys.map nm)=false):=hide (eqL_len (by rw[List.length_map,List.length_map,HX.out,HY.out];exact hnm))
 have hne:((n:Int) == (m:Int))=false:=by simp;omega
 have hne2:((n:Int) != (m:Int))=true:=by simp;omega
 go_enter Tryz.func75,Tryz.ntmps75
 go_wp2
 go_ret
 exact⟨ret_b (by rw[HE.out]),Below.refl _ _⟩
theorem isame_any (w:World) (A B:Option Addr) (xs ys:List Ml) (n m c d:Nat) (hx:xs.length=n) (hy:ys.length=m) (hn:n≤9223372036854775807) (rx:Rd w w.heap.size A (mlFlat xs)) (ry:Rd w w.heap.size B (mlFlat ys)) :
  Calls Tryz.prog 49 #[.slice A n c,.slice B m d] w fun e w'=>e = .returned (.bool (eqL (xs.map nm) (ys.map nm)))∧Below w.heap.size w w':=by
 go_enter Tryz.func49,Tryz.ntmps49
 go_wp2_with fail
 refine (equalM_any w A B xs ys n m c d hx hy hn rx ry).mono ?_
 rintro e z ⟨rfl,hz⟩
 go_wp2
 go_ret
 exact⟨rfl,hz⟩
theorem rmsame_any (w:World) (A B:Option Addr) (xs ys:List Ml) (n m c d:Nat) (hx:xs.length=n) (hy:ys.length=m) (hn:n≤9223372036854775807) (rx:Rd w w.heap.size A (mlFlat xs)) (ry:Rd w w.heap.size B (mlFlat ys)) :
  Calls Tryz.prog 37 #[.slice A n c,.slice B m d] w fun e w'=>e = .returned (.bool (eqL (xs.map nm) (ys.map nm)))∧Below w.heap.size w w':=by
 have HX:=hide hx
 have HY:=hide hy
 have RX:=hide rx
 have RY:=hide ry
 clear hx hy rx ry
 by_cases hnm:n=m
 ·obtain rfl:=hnm
  go_enter Tryz.func37,Tryz.ntmps37
  go_wp2
  go_loopw [5] (fun vi wr=>∃i:Nat,i≤n∧vi = .int .i64 i∧Hid (eqL (xs.map nm) (ys.map nm)=eqL ((xs.map nm).drop i) ((ys.map nm).drop i))∧Hid (Kept w wr)∧Hid (Below w.heap.size w wr)) (fun vi _=>n-(intOf vi).toNat)
  case atStart=>exact⟨0,by omega,rfl,hide rfl,hide (Kept.refl w),hide (Below.refl _ _)⟩
  case round=>
   obtain⟨i,hi,rfl,heq,hkr,hbr⟩:=hrel
   by_cases hlt:i<n
   ·have hi1:i<xs.length:=by rw[HX.out];exact hlt
    have hi2:i<ys.length:=by rw[HY.out];exact hlt
    have HS:=hide (eqL_step (xs.map nm) (ys.map nm) i (by rw[List.length_map];exact hi1) (by rw[List.length_map];exact hi2))
    obtain⟨b1,o1,rfl,l1,cx0,cx1⟩:=RX.out.ml (List.getElem?_eq_getElem hi1)
    obtain⟨b2,o2,rfl,l2,cy0,cy1⟩:=RY.out.ml (List.getElem?_eq_getElem hi2)
    rw[List.getElem_map,List.getElem_map] at HS
    obtain⟨x,hx⟩:∃x,xs[i]=x:=⟨_,rfl⟩
    obtain⟨y,hy⟩:∃y,ys[i]=y:=⟨_,rfl⟩
    rw[hx] at cx0 cx1 HS
    rw[hy] at cy0 cy1 HS
    clear hx hy hi1 hi2
    obtain⟨a,x⟩:=x
    obtain⟨b,y⟩:=y
    dsimp only at cx0 cx1 cy0 cy1
    have hI0:(0:Int)≤(i:Int):=by omega
    have hI1:(i:Int)<(n:Int):=by omega
    rcases a with _ | _ <;> rcases b with _ | _
    ·have HE:Hid (eqL (xs.map nm) (ys.map nm)=eqL ((xs.map nm).drop (i+1)) ((ys.map nm).drop (i+1))):=hide (by rw[heq.out,HS.out,decide_eq_true (by simp[nm]),Bool.true_and])
     go_wp2
     refine wp_region_held_drew (S:=Kept w) (by kernel_rfl) (fun p hp=>hkr.out p hp) (fun hS0=>?_)
     refine tka 0 17 ?_
     refine tka 1 18 ?_
     refine tka 2 19 ?_
     refine tka 3 20 ?_
     refine tka 4 21 ?_
     refine tka 5 22 ?_
     refine tka 6 23 ?_
     refine tka 7 24 ?_
     refine tka 8 25 ?_
     refine tka 9 26 ?_
     refine tka 10 27 ?_
     refine tka 11 28 ?_
     refine tka 12 29 ?_
     refine tka 13 30 ?_
     refine tka 14 31 ?_
     refine tka 15 32 ?_
     refine tka 16 33 ?_
     refine tka 17 34 ?_
     refine ska 18 35 ?_
     refine ska 19 36 ?_
     refine ska 20 37 ?_
     refine ska 21 38 ?_
     refine ska 22 39 ?_
     refine ska 23 40 ?_
     refine ska 24 41 ?_
     refine ska 25 42 ?_
     refine ska 26 43 ?_
     refine ska 27 44 ?_
     refine ska 28 45 ?_
     refine tka 29 46 ?_
     refine tka 30 47 ?_
     refine wpAnyH_done (by kernel_rfl) ?_ _
     clear hS0
     go_wp2
     go_roundw
     case rel=>exact⟨i+1,by omega,by go_num,HE,hide (fun p hp=>hkr.out p hp),hide hbr.out.drew⟩
     case measure=>simp[intOf];omega
    ·have HE:Hid (eqL (xs.map nm) (ys.map nm)=false):=hide (by rw[heq.out,HS.out,decide_eq_false (by simp[nm]),Bool.false_and])
     go_wp2
     refine wp_region_held_drew (S:=Kept w) (by kernel_rfl) (fun p hp=>hkr.out p hp) (fun hS0=>?_)
     refine tka 0 17 ?_
     refine tka 1 18 ?_
     refine tka 2 19 ?_
     refine tka 3 20 ?_
     refine tka 4 21 ?_
     refine tka 5 22 ?_
     refine tka 6 23 ?_
     refine tka 7 24 ?_
     refine tka 8 25 ?_
     refine tka 9 26 ?_
     refine tka 10 27 ?_
     refine tka 11 28 ?_
     refine ska 12 29 ?_
     refine ska 13 30 ?_
     refine ska 14 31 ?_
     refine ska 15 32 ?_
     refine ska 16 33 ?_
     refine ska 17 34 ?_
     refine ska 18 35 ?_
     refine ska 19 36 ?_
     refine ska 20 37 ?_
     refine ska 21 38 ?_
     refine ska 22 39 ?_
     refine ska 23 40 ?_
     refine ska 24 41 ?_
     refine ska 25 42 ?_
     refine ska 26 43 ?_
     refine ska 27 44 ?_
     refine ska 28 45 ?_
     refine ska 29 46 ?_
     refine tka 30 47 ?_
     refine wpAnyH_done (by kernel_rfl) ?_ _
     clear hS0
     go_wp2
     go_ret
     exact⟨ret_b (by rw[HE.out]),hbr.out.drew⟩
    ·have HE:Hid (eqL (xs.map nm) (ys.map nm)=false):=hide (by rw[heq.out,HS.out,decide_eq_false (by simp[nm]),Bool.false_and])
     go_wp2
     refine wp_region_held_drew (S:=Kept w) (by kernel_rfl) (fun p hp=>hkr.out p hp) (fun hS0=>?_)
     refine tka 0 17 ?_
     refine tka 1 18 ?_
     refine tka 2 19 ?_
     refine tka 3 20 ?_
     refine tka 4 21 ?_
     refine tka 5 22 ?_
     refine tka 6 23 ?_
     refine tka 7 24 ?_
     refine tka 8 25 ?_
     refine tka 9 26 ?_
     refine tka 10 27 ?_
     refine tka 11 28 ?_
     refine ska 12 29 ?_
     refine ska 13 30 ?_
     refine ska 14 31 ?_
     refine ska 15 32 ?_
     refine ska 16 33 ?_
     refine ska 17 34 ?_
     refine ska 18 35 ?_
     refine ska 19 36 ?_
     refine ska 20 37 ?_
     refine ska 21 38 ?_
     refine ska 22 39 ?_
     refine ska 23 40 ?_
     refine ska 24 41 ?_
     refine ska 25 42 ?_
     refine ska 26 43 ?_
     refine ska 27 44 ?_
     refine ska 28 45 ?_
     refine ska 29 46 ?_
     refine tka 30 47 ?_
     refine wpAnyH_done (by kernel_rfl) ?_ _
     clear hS0
     go_wp2
     go_ret
     exact⟨ret_b (by rw[HE.out]),hbr.out.drew⟩
    by_cases hxy:x=y
    ·have HE:Hid (eqL (xs.map nm) (ys.map nm)=eqL ((xs.map nm).drop (i+1)) ((ys.map nm).drop (i+1))):=hide (by rw[heq.out,HS.out,decide_eq_true (by simp[nm,hxy]),Bool.true_and])
     subst hxy
     go_wp2
     refine wp_region_held_drew (S:=Kept w) (by kernel_rfl) (fun p hp=>hkr.out p hp) (fun hS0=>?_)
     refine tka 0 17 ?_
     refine tka 1 18 ?_
     refine tka 2 19 ?_
     refine tka 3 20 ?_
     refine tka 4 21 ?_
     refine tka 5 22 ?_
     refine tka 6 23 ?_
     refine tka 7 24 ?_
     refine tka 8 25 ?_
     refine tka 9 26 ?_
     refine tka 10 27 ?_
     refine tka 11 28 ?_
     refine tka 12 29 ?_
     refine tka 13 30 ?_
     refine tka 14 31 ?_
     refine tka 15 32 ?_
     refine tka 16 33 ?_
     refine tka 17 34 ?_
     refine tka 18 35 ?_
     refine tka 19 36 ?_
     refine tka 20 37 ?_
     refine tka 21 38 ?_
     refine tka 22 39 ?_
     refine tka 23 40 ?_
     refine tka 24 41 ?_
     refine tka 25 42 ?_
     refine tka 26 43 ?_
     refine tka 27 44 ?_
     refine tka 28 45 ?_
     refine tka 29 46 ?_
     refine tka 30 47 ?_
     refine wpAnyH_done (by kernel_rfl) ?_ _
     clear hS0
     go_wp2
     go_roundw
     case rel=>exact⟨i+1,by omega,by go_num,HE,hide (fun p hp=>hkr.out p hp),hide hbr.out.drew⟩
     case measure=>simp[intOf];omega
    have HE:Hid (eqL (xs.map nm) (ys.map nm)=false):=hide (by rw[heq.out,HS.out,decide_eq_false (by simp[nm,hxy]),Bool.false_and])
    have hxy':(x == y)=false:=by simp only[beq_eq_false_iff_ne,ne_eq];exact hxy
    have hxy2:(x != y)=true:=by simp only[bne_iff_ne,ne_eq];exact hxy
    clear hxy
    go_wp2
    refine wp_region_held_drew (S:=Kept w) (by kernel_rfl) (fun p hp=>hkr.out p hp) (fun hS0=>?_)
    refine tka 0 17 ?_
    refine tka 1 18 ?_
    refine tka 2 19 ?_
    refine tka 3 20 ?_
    refine tka 4 21 ?_
    refine tka 5 22 ?_
    refine tka 6 23 ?_
    refine tka 7 24 ?_
    refine tka 8 25 ?_
    refine tka 9 26 ?_
    refine tka 10 27 ?_
    refine tka 11 28 ?_
    refine tka 12 29 ?_
    refine tka 13 30 ?_
    refine tka 14 31 ?_
    refine tka 15 32 ?_
    refine tka 16 33 ?_
    refine tka 17 34 ?_
    refine tka 18 35 ?_
    refine tka 19 36 ?_
    refine tka 20 37 ?_
    refine tka 21 38 ?_
    refine tka 22 39 ?_
    refine tka 23 40 ?_
    refine tka 24 41 ?_
    refine tka 25 42 ?_
    refine tka 26 43 ?_
    refine tka 27 44 ?_
    refine tka 28 45 ?_
    refine tka 29 46 ?_
    refine tka 30 47 ?_
    refine wpAnyH_done (by kernel_rfl) ?_ _
    clear hS0
    go_wp2
    go_ret
    exact⟨ret_b (by rw[HE.out]),hbr.out.drew⟩
   obtain rfl:i=n:=by omega
   have HE:Hid (eqL (xs.map nm) (ys.map nm)=true):=hide (by rw[heq.out,List.drop_of_length_le (by have:=HX.out;rw[List.length_map];omega),List.drop_of_length_le (by have:=HY.out;rw[List.length_map];omega)];exact eqL_nil)
   go_wp2
   go_ret
   exact⟨ret_b (by rw[HE.out]),hbr.out⟩
 have HE:Hid (eqL (xs.map nm) (ys.map nm)=false):=hide (eqL_len (by rw[List.length_map,List.length_map,HX.out,HY.out];exact hnm))
 have hne:((n:Int) == (m:Int))=false:=by simp;omega
 have hne2:((n:Int) != (m:Int))=true:=by simp;omega
 go_enter Tryz.func37,Tryz.ntmps37
 go_wp2
 go_ret
 exact⟨ret_b (by rw[HE.out]),Below.refl _ _⟩
end Go.Proofs.YtpgbjabifhjogaaGreat

/- Lemmas: Qmy. -/
import Derived.Test.YtpgbjabifhjogaaGreatSkWw27
import Derived.Test.YtpgbjabifhjogaaGreatSkWw34
set_option linter.unusedVariables false
set_option linter.unusedSimpArgs false
set_option maxRecDepth 100000
set_option maxHeartbeats 16000000
namespace Go.Proofs.YtpgbjabifhjogaaGreat
open Go.RowKit Go.Shelf
attribute [local go_sem] Oper.semAt_some
def wiB (x:Int):Bool:=decide (0≤x) && decide (x≤4611686018427387904)
def okM (m:Ml):Bool:=!m.1 || wiB m.2
def mayV (V:Int) (p:SV):Bool:=decide (0≤p.st) && decide (p.st≤2000) && decide ((p.vals.length:Int)=V) && decide ((p.chg.length:Int)=V) && decide ((p.inb.length:Int)=V) && wiB p.sm && wiB p.mo && p.vals.all wiB && p.inb.all okM
theorem all_take {α:Type} {f:α→Bool} {l:List α} {i:Nat} {x:α} (h:l[i]?=some x) (h1:(l.take i).all f=true) (h2:f x=true):(l.take (i+1)).all f=true:=by
 rw[List.take_add_one,h,List.all_append,h1]
 simp[h2]
theorem all_not {α:Type} {f:α→Bool} {l:List α} {i:Nat} {x:α} (h:l[i]?=some x) (h2:f x=false):l.all f=false:=by
 cases hq:l.all f with
 | false=>rfl
 | true=>rw[List.all_eq_true.1 hq x (List.mem_of_getElem? h)] at h2;cases h2
theorem all_end {α:Type} {f:α→Bool} {l:List α} {n:Nat} (hn:l.length=n) (h1:(l.take n).all f=true):l.all f=true:=by
 rwa [List.take_of_length_le (by omega)] at h1
theorem within_any (w:World) (x:Int):Calls Tryz.prog 68 #[.int .i64 x] w fun e w'=>e = .returned (.bool (wiB x))∧w=w':=by
 by_cases h0:x<0
 ·have h0':¬0≤x:=by omega
  have hF:Hid (wiB x=false):=hide (by simp[wiB];omega)
  go_enter Tryz.func68,Tryz.ntmps68
  go_wp2
  go_ret
  exact⟨ret_b hF.out.symm,rfl⟩
 have h0':0≤x:=by omega
 by_cases h1:x≤4611686018427387904
 ·have hF:Hid (wiB x=true):=hide (by simp[wiB];omega)
  go_enter Tryz.func68,Tryz.ntmps68
  go_wp2
  go_ret
  exact⟨ret_b hF.out.symm,rfl⟩
 have hF:Hid (wiB x=false):=hide (by simp[wiB];omega)
 go_enter Tryz.func68,Tryz.ntmps68
 go_wp2
 go_ret
 exact⟨ret_b hF.out.symm,rfl⟩
theorem in_any (w:World) (x:Int):Calls Tryz.prog 52 #[.int .i64 x] w fun e w'=>e = .returned (.bool (wiB x))∧w=w':=by
 by_cases h0:x<0
 ·have h0':¬0≤x:=by omega
  have hF:Hid (wiB x=false):=hide (by simp[wiB];omega)
  go_enter Tryz.func52,Tryz.ntmps52
  go_wp2
  go_ret
  exact⟨ret_b hF.out.symm,rfl⟩
 have h0':0≤x:=by omega
 by_cases h1:x≤4611686018427387904
 ·have hF:Hid (wiB x=true):=hide (by simp[wiB];omega)
  go_enter Tryz.func52,Tryz.ntmps52
  go_wp2
  go_ret
  exact⟨ret_b hF.out.symm,rfl⟩
 have hF:Hid (wiB x=false):=hide (by simp[wiB];omega)
 go_enter Tryz.func52,Tryz.ntmps52
 go_wp2
 go_ret
 exact⟨ret_b hF.out.symm,rfl⟩
theorem mayA_any (w:World) (x:Int):Calls Tryz.prog 70 #[.int .i64 x] w fun e w'=>e = .returned (.bool (!wiB x))∧w=w':=by
 go_enter Tryz.func70,Tryz.ntmps70
 go_wp2_with fail
 refine (within_any w x).mono ?_
 rintro e y ⟨rfl,rfl⟩
 go_wp2
 go_ret
 exact⟨rfl,rfl⟩
theorem mayB_any (w:World) (a:Bool) (x:Int):Calls Tryz.prog 72 #[.agg #[.bool a,.int .i64 x]] w fun e w'=>e = .returned (.bool (!okM (a,x)))∧Below w.heap.size w w':=by
 have HB:=hide (show Below w.heap.size w (w.alloc (.cells #[.bool a,.int .i64 x] 76)) from (Below.refl _ _).alloc (Nat.le_refl _) _)
 cases a
 ·go_enter Tryz.func72,Tryz.ntmps72
  go_wp2
  go_ret
  exact⟨rfl,HB.out⟩
 go_enter Tryz.func72,Tryz.ntmps72
 go_wp2_with fail
 refine (within_any _ x).mono ?_
 rintro e y ⟨rfl,rfl⟩
 go_wp2
 go_ret
 exact⟨ret_b (by simp[okM]),HB.out⟩
theorem indexL_any (w:World) (A:Option Addr) (xs:List Int) (n c:Nat) (hx:xs.length=n) (hn:n≤9223372036854775807) (rx:Rd w w.heap.size A (i64s xs)) :
  Calls Tryz.prog 93 #[.slice A n c,.func (.func 70) #[] #[]] w fun e w'=>∃r:Int,e = .returned (.int .i64 r)∧(decide (0≤r)=!xs.all wiB)∧Below w.heap.size w w':=by
 have HX:=hide hx
 have RX:=hide rx
 clear hx rx
 go_enter Tryz.func93,Tryz.ntmps93
 go_wp2
 go_loopw [8,5] (fun vi _ wr=>∃i:Nat,i≤n∧vi = .int .i64 i∧Hid ((xs.take i).all wiB=true)∧Hid (Below w.heap.size w wr)) (fun vi _ _=>n-(intOf vi).toNat)
 case atStart=>exact⟨0,by omega,rfl,hide (by simp),hide (Below.refl _ _)⟩
 case round=>
  obtain⟨i,hi,rfl,hta,hbr⟩:=hrel
  by_cases hlt:i<n
  ·have hI0:(0:Int)≤(i:Int):=by omega
   have hI1:(i:Int)<(n:Int):=by omega
   obtain⟨x,hx⟩:∃y,xs[i]?=some y:=⟨_,List.getElem?_eq_getElem (by rw[HX.out];exact hlt)⟩
   obtain⟨b1,o1,rfl,l1,x0⟩:=RX.out.at1 (i64s_get hx)
   have c0:=(hbr.out.cell (p:=⟨b1,o1+i,none⟩) l1).trans x0
   clear x0
   have l2:b1<wr.heap.size:=by have:=hbr.out.size;omega
   have hc:=mayA_any wr x
   rcases hq:wiB x with _ | _
   ·rw[hq] at hc
    have HF:Hid (xs.all wiB=false):=hide (all_not hx hq)
    have HC:=hide hc
    clear hc hx hq
    go_wp2_with fail
    refine HC.out.mono ?_
    rintro e y ⟨rfl,rfl⟩
    have HBy:=hbr
    go_wp2
    go_ret
    exact⟨(i:Int),rfl,by rw[HF.out];simp,HBy.out⟩
   rw[hq] at hc
   have HT:Hid ((xs.take (i+1)).all wiB=true):=hide (all_take hx hta.out hq)
   have HC:=hide hc
   clear hc hx hq
   go_wp2_with fail
   refine HC.out.mono ?_
   rintro e y ⟨rfl,rfl⟩
   have HBy:=hbr
   go_wp2
   go_roundw
   case rel=>exact⟨i+1,by omega,by go_num,HT,HBy⟩
   case measure=>simp[intOf];omega
  obtain rfl:i=n:=by omega
  have HF:Hid (xs.all wiB=true):=hide (all_end HX.out hta.out)
  go_wp2
  go_ret
  exact⟨-1,rfl,by rw[HF.out];decide,hbr.out⟩
theorem containsL_any (w:World) (A:Option Addr) (xs:List Int) (n c:Nat) (hx:xs.length=n) (hn:n≤9223372036854775807) (rx:Rd w w.heap.size A (i64s xs)) :
  Calls Tryz.prog 69 #[.slice A n c,.func (.func 70) #[] #[]] w fun e w'=>e = .returned (.bool (!xs.all wiB))∧Below w.heap.size w w':=by
 go_enter Tryz.func69,Tryz.ntmps69
 go_wp2_with fail
 refine (indexL_any w A xs n c hx hn rx).mono ?_
 rintro e y ⟨r,rfl,hr,hy⟩
 have HR:=hide hr
 have HY:=hide hy
 clear hr hy
 go_wp2
 go_ret
 exact⟨ret_b HR.out,HY.out⟩
theorem indexM_any (w:World) (A:Option Addr) (xs:List Ml) (n c:Nat) (hx:xs.length=n) (hn:n≤9223372036854775807) (rx:Rd w w.heap.size A (mlFlat xs)) :
  Calls Tryz.prog 94 #[.slice A n c,.func (.func 72) #[] #[]] w fun e w'=>∃r:Int,e = .returned (.int .i64 r)∧(decide (0≤r)=!xs.all okM)∧Below w.heap.size w w':=by
 have HX:=hide hx
 have RX:=hide rx
 clear hx rx
 go_enter Tryz.func94,Tryz.ntmps94
 go_wp2
 go_loopw [8,5] (fun vi _ wr=>∃i:Nat,i≤n∧vi = .int .i64 i∧Hid ((xs.take i).all okM=true)∧Hid (Below w.heap.size w wr)) (fun vi _ _=>n-(intOf vi).toNat)
 case atStart=>exact⟨0,by omega,rfl,hide (by simp),hide (Below.refl _ _)⟩
 case round=>
  obtain⟨i,hi,rfl,hta,hbr⟩:=hrel
  by_cases hlt:i<n
  ·have hI0:(0:Int)≤(i:Int):=by omega
   have hI1:(i:Int)<(n:Int):=by omega
   obtain⟨x,hx⟩:∃y,xs[i]?=some y:=⟨_,List.getElem?_eq_getElem (by rw[HX.out];exact hlt)⟩
   obtain⟨b1,o1,rfl,l1,x0,x1⟩:=RX.out.ml hx
   obtain⟨a,x⟩:=x
   dsimp only at x0 x1
   have c0:=(hbr.out.cell (p:=⟨b1,o1+i*2,none⟩) l1).trans x0
   have c1:=(hbr.out.cell (p:=⟨b1,o1+i*2+1,none⟩) l1).trans x1
   clear x0 x1
   have l2:b1<wr.heap.size:=by have:=hbr.out.size;omega
   have hc:=mayB_any wr a x
   rcases hq:okM (a,x) with _ | _
   ·rw[hq] at hc
    have HF:Hid (xs.all okM=false):=hide (all_not hx hq)
    have HC:=hide hc
    clear hc hx hq
    go_wp2_with fail
    refine HC.out.mono ?_
    rintro e y ⟨rfl,hy⟩
    have HBy:=hide (hbr.out.trans (hy.mono hbr.out.size))
    clear hy
    go_wp2
    go_ret
    exact⟨(i:Int),rfl,by rw[HF.out];simp,HBy.out⟩
   rw[hq] at hc
   have HT:Hid ((xs.take (i+1)).all okM=true):=hide (all_take hx hta.out hq)
   have HC:=hide hc
   clear hc hx hq
   go_wp2_with fail
   refine HC.out.mono ?_
   rintro e y ⟨rfl,hy⟩
   have HBy:=hide (hbr.out.trans (hy.mono hbr.out.size))
   clear hy
   go_wp2
   go_roundw
   case rel=>exact⟨i+1,by omega,by go_num,HT,HBy⟩
   case measure=>simp[intOf];omega
  obtain rfl:i=n:=by omega
  have HF:Hid (xs.all okM=true):=hide (all_end HX.out hta.out)
  go_wp2
  go_ret
  exact⟨-1,rfl,by rw[HF.out];decide,hbr.out⟩
theorem containsM_any (w:World) (A:Option Addr) (xs:List Ml) (n c:Nat) (hx:xs.length=n) (hn:n≤9223372036854775807) (rx:Rd w w.heap.size A (mlFlat xs)) :
  Calls Tryz.prog 71 #[.slice A n c,.func (.func 72) #[] #[]] w fun e w'=>e = .returned (.bool (!xs.all okM))∧Below w.heap.size w w':=by
 go_enter Tryz.func71,Tryz.ntmps71
 go_wp2_with fail
 refine (indexM_any w A xs n c hx hn rx).mono ?_
 rintro e y ⟨r,rfl,hr,hy⟩
 have HR:=hide hr
 have HY:=hide hy
 clear hr hy
 go_wp2
 go_ret
 exact⟨ret_b HR.out,HY.out⟩
theorem pmay_any (w:World) (p:SV) (Av Ac Ai:Option Addr) (nv nc ni cv cc ci:Nat) (hl:VLen p nv nc ni) (hi:VIn w p Av Ac Ai) (bv:nv≤9223372036854775807) (bi:ni≤9223372036854775807) (V:Int) :
  Calls Tryz.prog 43 #[.agg #[.int .i64 p.st,.slice Av nv cv,.slice Ac nc cc,.slice Ai ni ci,.int .i64 p.sm,.int .i64 p.mo],.int .i64 V] w fun e w'=>e = .returned (.bool (mayV V p))∧Below w.heap.size w w':=by
 have HL:=hide hl
 obtain⟨u,hu⟩:∃u,w.alloc (.cells #[.int .i64 p.st,.slice Av nv cv,.slice Ac nc cc,.slice Ai ni ci,.int .i64 p.sm,.int .i64 p.mo] 33)=u:=⟨_,rfl⟩
 have HB:=hide (show Below w.heap.size w u by rw[←hu];exact (Below.refl _ _).alloc (Nat.le_refl _) _)
 have hS:u.heap[w.heap.size]?=some (.cells #[.int .i64 p.st,.slice Av nv cv,.slice Ac nc cc,.slice Ai ni ci,.int .i64 p.sm,.int .i64 p.mo] 33):=by rw[←hu];exact heap_alloc_last _ _
 have HS:=hide hS
 have hz:w.heap.size<u.heap.size:=by rw[←hu];simp
 have HI:=hide (hi.next HB.out)
 have HU:=hide hu
 clear hu hi hl
 obtain⟨s0,s1,s2,s3,s4,s5⟩:=zr6 hS
 clear hS
 by_cases hst0:0≤p.st
 rotate_left
 ·have hst0':p.st<0:=by omega
  have HF:Hid (mayV V p=false):=hide (by have h9:¬(0≤p.st):=hst0;simp[mayV,h9])
  go_enter Tryz.func43,Tryz.ntmps43
  go_upto_region 1 with fail
  rw[HU.out]
  go_wp2
  go_ret
  exact⟨ret_b HF.out.symm,HB.out⟩
 have hst0':¬p.st<0:=by omega
 by_cases hst1:p.st≤2000
 rotate_left
 ·have hst1':2000<p.st:=by omega
  have HF:Hid (mayV V p=false):=hide (by have h9:¬(p.st≤2000):=hst1;simp[mayV,h9])
  go_enter Tryz.func43,Tryz.ntmps43
  go_upto_region 1 with fail
  rw[HU.out]
  go_wp2
  go_ret
  exact⟨ret_b HF.out.symm,HB.out⟩
 have hst1':¬2000<p.st:=by omega
 by_cases hn1:(nv:Int)=V
 rotate_left
 ·have hb1:((nv:Int) == V)=false:=by simpa using hn1
  have hc1:((nv:Int) != V)=true:=by simpa using hn1
  have HF:Hid (mayV V p=false):=hide (by have h9:¬((p.vals.length:Int)=V):=(by rw[HL.out.1];exact hn1);simp[mayV,h9])
  go_enter Tryz.func43,Tryz.ntmps43
  go_upto_region 1 with fail
  rw[HU.out]
  go_wp2
  go_ret
  exact⟨ret_b HF.out.symm,HB.out⟩
 have hb1:((nv:Int) == V)=true:=by simpa using hn1
 have hc1:((nv:Int) != V)=false:=by simpa using hn1
 have HN1:Hid ((p.vals.length:Int)=V):=hide (by rw[HL.out.1];exact hn1)
 clear hn1
 by_cases hn2:(nc:Int)=V
 rotate_left
 ·have hb2:((nc:Int) == V)=false:=by simpa using hn2
  have hc2:((nc:Int) != V)=true:=by simpa using hn2
  have HF:Hid (mayV V p=false):=hide (by have h9:¬((p.chg.length:Int)=V):=(by rw[HL.out.2.1];exact hn2);simp[mayV,h9])
  go_enter Tryz.func43,Tryz.ntmps43
  go_upto_region 1 with fail
  rw[HU.out]
  go_wp2
  go_ret
  exact⟨ret_b HF.out.symm,HB.out⟩
 have hb2:((nc:Int) == V)=true:=by simpa using hn2
 have hc2:((nc:Int) != V)=false:=by simpa using hn2
 have HN2:Hid ((p.chg.length:Int)=V):=hide (by rw[HL.out.2.1];exact hn2)
 clear hn2
 by_cases hn3:(ni:Int)=V
 rotate_left
 ·have hb3:((ni:Int) == V)=false:=by simpa using hn3
  have hc3:((ni:Int) != V)=true:=by simpa using hn3
  have HF:Hid (mayV V p=false):=hide (by have h9:¬((p.inb.length:Int)=V):=(by rw[HL.out.2.2];exact hn3);simp[mayV,h9])
  go_enter Tryz.func43,Tryz.ntmps43
  go_upto_region 1 with fail
  rw[HU.out]
  go_wp2
  go_ret
  exact⟨ret_b HF.out.symm,HB.out⟩
 have hb3:((ni:Int) == V)=true:=by simpa using hn3
 have hc3:((ni:Int) != V)=false:=by simpa using hn3
 have HN3:Hid ((p.inb.length:Int)=V):=hide (by rw[HL.out.2.2];exact hn3)
 clear hn3
 go_enter Tryz.func43,Tryz.ntmps43
 go_upto_region 1 with fail
 rw[HU.out]
 go_wp2_with fail
 refine (within_any u p.sm).mono ?_
 rintro e y ⟨rfl,rfl⟩
 rcases hsm:wiB p.sm with _ | _
 ·have HF:Hid (mayV V p=false):=hide (by simp[mayV,hsm])
  clear hsm
  go_wp2
  go_ret
  exact⟨ret_b HF.out.symm,HB.out⟩
 have Hsm:=hide hsm
 clear hsm
 go_wp2_with fail
 refine (within_any u p.mo).mono ?_
 rintro e y ⟨rfl,rfl⟩
 rcases hmo:wiB p.mo with _ | _
 ·have HF:Hid (mayV V p=false):=hide (by simp[mayV,hmo])
  clear hmo
  go_wp2
  go_ret
  exact⟨ret_b HF.out.symm,HB.out⟩
 have Hmo:=hide hmo
 clear hmo
 go_wp2_with fail
 refine (containsL_any u Av p.vals nv cv HL.out.1 bv HI.out.vals).mono ?_
 rintro e y ⟨rfl,hy⟩
 have HY:=hide hy
 have sy:u.heap.size≤y.heap.size:=hy.size
 clear hy
 rcases hva:p.vals.all wiB with _ | _
 ·clear s0 s1 s2 s3 s4 s5
  have HF:Hid (mayV V p=false):=hide (by simp[mayV,hva])
  clear hva
  go_wp2
  go_ret
  exact⟨ret_b HF.out.symm,HB.out.trans (HY.out.mono HB.out.size)⟩
 have Hva:=hide hva
 clear hva
 clear s0 s1 s2 s3 s4 s5
 obtain⟨s0,s1,s2,s3,s4,s5⟩:=zr6 ((HY.out.block _ hz).trans HS.out)
 have hzy:w.heap.size<y.heap.size:=by omega
 go_wp2_with fail
 refine (containsM_any y Ai p.inb ni ci HL.out.2.2 bi (HI.out.next HY.out).inb).mono ?_
 rintro e z ⟨rfl,hzz⟩
 have HZ:=hide (HB.out.trans ((HY.out.trans (hzz.mono sy)).mono HB.out.size))
 clear hzz
 rcases hma:p.inb.all okM with _ | _
 ·clear s0 s1 s2 s3 s4 s5
  have HF:Hid (mayV V p=false):=hide (by simp[mayV,hma])
  clear hma
  go_wp2
  go_ret
  exact⟨ret_b HF.out.symm,HZ.out⟩
 have HT:Hid (mayV V p=true):=hide (by simp[mayV,hst0,hst1,HN1.out,HN2.out,HN3.out,Hsm.out,Hmo.out,Hva.out,hma])
 clear hma
 go_wp2
 go_ret
 exact⟨ret_b HT.out.symm,HZ.out⟩
theorem dmay_any (w:World) (p:SV) (Av Ac Ai:Option Addr) (nv nc ni cv cc ci:Nat) (hl:VLen p nv nc ni) (hi:VIn w p Av Ac Ai) (bv:nv≤9223372036854775807) (bi:ni≤9223372036854775807) (V:Int) :
  Calls Tryz.prog 25 #[.agg #[.int .i64 p.st,.slice Av nv cv,.slice Ac nc cc,.slice Ai ni ci,.int .i64 p.sm,.int .i64 p.mo],.int .i64 V] w fun e w'=>e = .returned (.bool (mayV V p))∧Below w.heap.size w w':=by
 have HL:=hide hl
 obtain⟨u,hu⟩:∃u,w.alloc (.cells #[.int .i64 p.st,.slice Av nv cv,.slice Ac nc cc,.slice Ai ni ci,.int .i64 p.sm,.int .i64 p.mo] 33)=u:=⟨_,rfl⟩
 have HB:=hide (show Below w.heap.size w u by rw[←hu];exact (Below.refl _ _).alloc (Nat.le_refl _) _)
 have hS:u.heap[w.heap.size]?=some (.cells #[.int .i64 p.st,.slice Av nv cv,.slice Ac nc cc,.slice Ai ni ci,.int .i64 p.sm,.int .i64 p.mo] 33):=by rw[←hu];exact heap_alloc_last _ _
 have HS:=hide hS
 have hz:w.heap.size<u.heap.size:=by rw[←hu];simp
 have HI:=hide (hi.next HB.out)
 have HU:=hide hu
 clear hu hi hl
 obtain⟨s0,s1,s2,s3,s4,s5⟩:=zr6 hS
 clear hS
 by_cases hst0:0≤p.st
 rotate_left
 ·have hst0':p.st<0:=by omega
  have HF:Hid (mayV V p=false):=hide (by have h9:¬(0≤p.st):=hst0;simp[mayV,h9])
  go_enter Tryz.func25,Tryz.ntmps25
  go_upto_region 1 with fail
  rw[HU.out]
  go_wp2
  go_ret
  exact⟨ret_b HF.out.symm,HB.out⟩
 have hst0':¬p.st<0:=by omega
 by_cases hst1:p.st≤2000
 rotate_left
 ·have hst1':2000<p.st:=by omega
  have HF:Hid (mayV V p=false):=hide (by have h9:¬(p.st≤2000):=hst1;simp[mayV,h9])
  go_enter Tryz.func25,Tryz.ntmps25
  go_upto_region 1 with fail
  rw[HU.out]
  go_wp2
  go_ret
  exact⟨ret_b HF.out.symm,HB.out⟩
 have hst1':¬2000<p.st:=by omega
 by_cases hn1:(nv:Int)=V
 rotate_left
 ·have hb1:((nv:Int) == V)=false:=by simpa using hn1
  have hc1:((nv:Int) != V)=true:=by simpa using hn1
  have HF:Hid (mayV V p=false):=hide (by have h9:¬((p.vals.length:Int)=V):=(by rw[HL.out.1];exact hn1);simp[mayV,h9])
  go_enter Tryz.func25,Tryz.ntmps25
  go_upto_region 1 with fail
  rw[HU.out]
  go_wp2
  go_ret
  exact⟨ret_b HF.out.symm,HB.out⟩
 have hb1:((nv:Int) == V)=true:=by simpa using hn1
 have hc1:((nv:Int) != V)=false:=by simpa using hn1
 have HN1:Hid ((p.vals.length:Int)=V):=hide (by rw[HL.out.1];exact hn1)
 clear hn1
 by_cases hn2:(nc:Int)=V
 rotate_left
 ·have hb2:((nc:Int) == V)=false:=by simpa using hn2
  have hc2:((nc:Int) != V)=true:=by simpa using hn2
  have HF:Hid (mayV V p=false):=hide (by have h9:¬((p.chg.length:Int)=V):=(by rw[HL.out.2.1];exact hn2);simp[mayV,h9])
  go_enter Tryz.func25,Tryz.ntmps25
  go_upto_region 1 with fail
  rw[HU.out]
  go_wp2
  go_ret
  exact⟨ret_b HF.out.symm,HB.out⟩
 have hb2:((nc:Int) == V)=true:=by simpa using hn2
 have hc2:((nc:Int) != V)=false:=by simpa using hn2
 have HN2:Hid ((p.chg.length:Int)=V):=hide (by rw[HL.out.2.1];exact hn2)
 clear hn2
 by_cases hn3:(ni:Int)=V
 rotate_left
 ·have hb3:((ni:Int) == V)=false:=by simpa using hn3
  have hc3:((ni:Int) != V)=true:=by simpa using hn3
  have HF:Hid (mayV V p=false):=hide (by have h9:¬((p.inb.length:Int)=V):=(by rw[HL.out.2.2];exact hn3);simp[mayV,h9])
  go_enter Tryz.func25,Tryz.ntmps25
  go_upto_region 1 with fail
  rw[HU.out]
  go_wp2
  go_ret
  exact⟨ret_b HF.out.symm,HB.out⟩
 have hb3:((ni:Int) == V)=true:=by simpa using hn3
 have hc3:((ni:Int) != V)=false:=by simpa using hn3
 have HN3:Hid ((p.inb.length:Int)=V):=hide (by rw[HL.out.2.2];exact hn3)
 clear hn3
 go_enter Tryz.func25,Tryz.ntmps25
 go_upto_region 1 with fail
 rw[HU.out]
 go_wp2_with fail
 refine (in_any u p.sm).mono ?_
 rintro e y ⟨rfl,rfl⟩
 rcases hsm:wiB p.sm with _ | _
 ·have HF:Hid (mayV V p=false):=hide (by simp[mayV,hsm])
  clear hsm
  go_wp2
  go_ret
  exact⟨ret_b HF.out.symm,HB.out⟩
 have Hsm:=hide hsm
 clear hsm
 go_wp2_with fail
 refine (in_any u p.mo).mono ?_
 rintro e y ⟨rfl,rfl⟩
 rcases hmo:wiB p.mo with _ | _
 ·have HF:Hid (mayV V p=false):=hide (by simp[mayV,hmo])
  clear hmo
  go_wp2
  go_ret
  exact⟨ret_b HF.out.symm,HB.out⟩
 have Hmo:=hide hmo
 clear hmo
 go_wp2
 go_loopw [5] (fun vi wr=>∃i:Nat,i≤nv∧vi = .int .i64 i∧Hid ((p.vals.take i).all wiB=true)∧Hid ((p.inb.take i).all okM=true)∧wr=u) (fun vi _=>nv-(intOf vi).toNat)
 case atStart=>exact⟨0,by omega,rfl,hide (by simp),hide (by simp),rfl⟩
 case round=>
  obtain⟨i,hi,rfl,hta,htb,rfl⟩:=hrel
  have hV:(nv:Int)=V:=by have:=HN1.out;rw[HL.out.1] at this;exact this
  have hV3:(ni:Int)=V:=by have:=HN3.out;rw[HL.out.2.2] at this;exact this
  by_cases hlt:i<nv
  ·have hI0:(0:Int)≤(i:Int):=by omega
   have hI1:(i:Int)<(nv:Int):=by omega
   have hI2:(i:Int)<(ni:Int):=by omega
   have hI3:(i:Int)<V:=by omega
   obtain⟨x,hx⟩:∃y,p.vals[i]?=some y:=⟨_,List.getElem?_eq_getElem (by rw[HL.out.1];omega)⟩
   obtain⟨b1,o1,hA1,l1,x0⟩:=HI.out.vals.at1 (i64s_get hx)
   obtain⟨mm,hm⟩:∃y,p.inb[i]?=some y:=⟨_,List.getElem?_eq_getElem (by rw[HL.out.2.2];omega)⟩
   obtain⟨b2,o2,hA2,l2,x1,x2⟩:=HI.out.inb.ml hm
   obtain⟨a,m⟩:=mm
   dsimp only at x1 x2
   rw[hA1] at s1
   rw[hA2] at s3
   clear hV hV3
   rcases hq:wiB x with _ | _
   ·have HF:Hid (mayV V p=false):=hide (by simp[mayV,all_not hx hq])
    have HC:=in_any wr x
    rw[hq] at HC
    have HC':=hide HC
    clear HC hq
    clear hx hm hA1 hA2
    go_wp2_with fail
    refine HC'.out.mono ?_
    rintro e y ⟨rfl,rfl⟩
    go_wp2
    go_ret
    exact⟨ret_b HF.out.symm,HB.out⟩
   cases a
   ·have HT1:=hide (all_take hx hta.out hq)
    have HC:=in_any wr x
    rw[hq] at HC
    have HC':=hide HC
    clear HC hq
    have HT2:=hide (all_take hm htb.out (show okM (false,m)=true from rfl))
    clear hx hm hA1 hA2
    go_wp2_with fail
    refine HC'.out.mono ?_
    rintro e y ⟨rfl,rfl⟩
    go_wp2
    go_roundw
    case rel=>exact⟨i+1,by omega,by go_num,HT1,HT2,by simp⟩
    case measure=>simp[intOf];omega
   have HT1:=hide (all_take hx hta.out hq)
   have HC:=in_any wr x
   rw[hq] at HC
   have HC':=hide HC
   clear HC hq
   rcases hq2:wiB m with _ | _
   ·have HF:Hid (mayV V p=false):=hide (by simp[mayV,all_not hm (show okM (true,m)=false by simp[okM,hq2])])
    have HD:=in_any wr m
    rw[hq2] at HD
    have HD':=hide HD
    clear HD hq2
    clear hx hm hA1 hA2
    go_wp2_with fail
    refine HC'.out.mono ?_
    rintro e y ⟨rfl,rfl⟩
    go_wp2_with fail
    refine HD'.out.mono ?_
    rintro e y ⟨rfl,rfl⟩
    go_wp2
    go_ret
    exact⟨ret_b HF.out.symm,HB.out⟩
   have HT2:=hide (all_take hm htb.out (show okM (true,m)=true by simp[okM,hq2]))
   have HD:=in_any wr m
   rw[hq2] at HD
   have HD':=hide HD
   clear HD hq2
   clear hx hm hA1 hA2
   go_wp2_with fail
   refine HC'.out.mono ?_
   rintro e y ⟨rfl,rfl⟩
   go_wp2_with fail
   refine HD'.out.mono ?_
   rintro e y ⟨rfl,rfl⟩
   go_wp2
   go_roundw
   case rel=>exact⟨i+1,by omega,by go_num,HT1,HT2,by simp⟩
   case measure=>simp[intOf];omega
  obtain rfl:i=nv:=by omega
  have hge:¬((i:Int)<V):=by omega
  have HT:Hid (mayV V p=true):=hide (by simp[mayV,hst0,hst1,HN1.out,HN2.out,HN3.out,Hsm.out,Hmo.out,all_end HL.out.1 hta.out,all_end (f:=okM) (show p.inb.length=i by rw[HL.out.2.2];omega) htb.out])
  clear hV hV3
  go_wp2
  go_ret
  exact⟨ret_b HT.out.symm,HB.out⟩
end Go.Proofs.YtpgbjabifhjogaaGreat

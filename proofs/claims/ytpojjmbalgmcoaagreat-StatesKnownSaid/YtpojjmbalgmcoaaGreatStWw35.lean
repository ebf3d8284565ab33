/- Lemmas: Ssr, Ssw, Ssn, Ssi. -/
import Derived.Deep.DeepCutAuto
import Derived.Lib.Hide
import Derived.WalkSpells
import Derived.WalkMore
import Derived.IntWalk
import Derived.Test.YtpojjmbalgmcoaaGreatStWw30
import Derived.Test.YtpojjmbalgmcoaaGreatStWw34
set_option linter.unusedVariables false
set_option linter.unusedSimpArgs false
set_option maxRecDepth 100000
set_option maxHeartbeats 16000000
namespace Go.Proofs.YtpojjmbalgmcoaaGreat
open Go.RowKit
def cmpI (x y:Ms):Int:=cmpOf x.1 y.1
def ltF (x y:Ms):Bool:=decide (cmpI x y<0)
def SR (v0:World) (B g n cap:Nat) (d:List Ms) (w:World):Prop:=d.length=n∧w.ownsRow B 185 2 (.slice (some ⟨g,0,none⟩) n cap) n (msFlat d)∧KB [g] v0 w∧Below g v0 w
section
variable {v0 w w':World} {B g n cap:Nat} {d:List Ms}
theorem SR.glt (h:SR v0 B g n cap d w):g<w.heap.size:=(h.2.1.lt g rfl).2
theorem SR.below (h:SR v0 B g n cap d w) (hb:Below w.heap.size w w'):SR v0 B g n cap d w':=⟨h.1,own_below h.2.1 hb (fun q hq=>(h.2.1.lt q hq).2),h.2.2.1.below hb h.2.2.1.1,h.2.2.2.trans (hb.mono (Nat.le_of_lt h.glt))⟩
theorem SR.drew (h:SR v0 B g n cap d w):SR v0 B g n cap d w.drew:=⟨h.1,h.2.1.drew,h.2.2.1.drew,h.2.2.2.drew⟩
theorem SR.frozen (h:SR v0 B g n cap d w) (j:Nat):w.frozen? ⟨g,j,none⟩=false:=h.2.1.frozenAt j
theorem SR.get (h:SR v0 B g n cap d w) {i:Nat} {m:Ms} (hm:d[i]?=some m):w.cell? ⟨g,i*2,none⟩=some (.int .i64 m.1)∧w.cell? ⟨g,i*2+1,none⟩=some (.int .i64 m.2):=by
 have hi:=lt_of_get hm
 have hl:=h.1
 have hn:i*2+2≤n*2:=by omega
 exact⟨(h.2.1.cellAt (i*2) (by omega)).trans (msFlat_get hm 0 _ rfl),(h.2.1.cellAt (i*2+1) (by omega)).trans (msFlat_get hm 1 _ rfl)⟩
theorem flat_set:∀{d:List Ms} {i:Nat} (m:Ms),i<d.length→msFlat (d.set i m)=((msFlat d).set (i*2) (.int .i64 m.1)).set (i*2+1) (.int .i64 m.2):=by
 intro d
 induction d with
 | nil=>intro i m h;simp at h
 | cons x d ih=>
  intro i m h
  cases i with
  | zero=>simp[msFlat]
  | succ i=>
   have h2:=ih (i:=i) m (by simpa using h)
   unfold msFlat at h2 ⊢
   rw[List.set_cons_succ,List.flatMap_cons,h2,List.flatMap_cons]
   simp only[List.cons_append,List.nil_append,show (i+1)*2=i*2+2 by omega,Nat.add_right_comm,List.set_cons_succ]
theorem SR.set (h:SR v0 B g n cap d w) {i:Nat} (hi:i<n) (m:Ms):SR v0 B g n cap (d.set i m) ((w.setCell ⟨g,i*2,none⟩ (.int .i64 m.1)).setCell ⟨g,i*2+1,none⟩ (.int .i64 m.2)):=by
 refine⟨by rw[List.length_set];exact h.1,?_,?_,?_⟩
 ·rw[flat_set m (by rw[h.1];exact hi)]
  exact ((h.2.1.stored (i*2) (.int .i64 m.1)).1.stored (i*2+1) (.int .i64 m.2)).1
 ·exact ((h.2.2.1.setCell (p:=⟨g,i*2,none⟩) (.inr (by simp)) _).setCell (p:=⟨g,i*2+1,none⟩) (.inr (by simp)) _)
 exact ((h.2.2.2.setCell (p:=⟨g,i*2,none⟩) (Nat.le_refl _) _).setCell (p:=⟨g,i*2+1,none⟩) (Nat.le_refl _) _)
end
theorem i64_nat (x:Nat) (h:x≤9223372036854775807):IntKind.i64.wrap (x:Int)=(x:Int):=IntWalk.i64_in _ (by omega)
theorem clo_any (w:World) (x y:Ms):Calls Tryz.prog 106 #[.agg #[.int .i64 x.1,.int .i64 x.2],.agg #[.int .i64 y.1,.int .i64 y.2]] w fun e w'=>e = .returned (.int .i64 (cmpI x y))∧Below w.heap.size w w':=send1_any _ x.1 x.2 y.1 y.2
theorem swr_any (v0 w:World) (B g n cap:Nat) (d:List Ms) (a b q:Nat) (hS:SR v0 B g n cap d w) (hab:a+q≤b) (hbn:b+q≤n) (hn:n≤1000000) :
  Calls Tryz.prog 117 #[.slice (some ⟨g,0,none⟩) n cap,.int .i64 (a:Int),.int .i64 (b:Int),.int .i64 (q:Int),.func (.func 106) #[] #[]] w (fun e w'=>e = .returned (.tuple #[])∧∃d',SR v0 B g n cap d' w'∧Swp a b q d d'):=by
 have HS:=hide hS
 have HL:=hide hS.1
 clear hS
 go_enter Tryz.func117,Tryz.ntmps117
 go_wp2
 go_loopw [10] (fun v10 wr=>∃(i:Nat) (d1:List Ms),i≤q∧v10 = .int .i64 (i:Int)∧Hid (SR v0 B g n cap d1 wr)∧Hid (Swp a b i d d1)) (fun v10 _=>q-(intOf v10).toNat)
 case atStart=>exact⟨0,d,by omega,rfl,HS,hide (Swp.zero a b d)⟩
 case round=>
  obtain⟨i,d1,hi,rfl,HS1,HW⟩:=hrel
  by_cases hlt:i<q
  ·have hI:(i:Int)<(q:Int):=by omega
   obtain⟨p,hp⟩:∃p,a+i=p:=⟨_,rfl⟩
   obtain⟨r,hr⟩:∃r,b+i=r:=⟨_,rfl⟩
   have hlen:=HS1.out.1
   have hpn:p<n:=by omega
   have hrn:r<n:=by omega
   have hp1:(p:Int)<(n:Int):=by omega
   have hr1:(r:Int)<(n:Int):=by omega
   obtain⟨x,hx⟩:=get_some (d:=d1) (i:=p) (by omega)
   obtain⟨y,hy⟩:=get_some (d:=d1) (i:=r) (by omega)
   obtain⟨cx0,cx1⟩:=HS1.out.get hx
   have cxf0:=HS1.out.frozen (p*2)
   have cxf1:=HS1.out.frozen (p*2+1)
   obtain⟨cy0,cy1⟩:=HS1.out.get hy
   have cyf0:=HS1.out.frozen (r*2)
   have cyf1:=HS1.out.frozen (r*2+1)
   have lg:=HS1.out.glt
   have HX:=hide hx
   have HY:=hide hy
   have HP:=hide hp
   have HR:=hide hr
   have hl2:=hlen
   have e1:(a:Int)+(i:Int)=(p:Int):=by omega
   have e2:(b:Int)+(i:Int)=(r:Int):=by omega
   have e3:IntKind.i64.wrap (p:Int)=(p:Int):=i64_nat p (by omega)
   have e4:IntKind.i64.wrap (r:Int)=(r:Int):=i64_nat r (by omega)
   clear hx hy hp hr hlen
   go_upto_region 3 with fail
   refine wpL_region (S:=Kept wr) [21,23] (by kernel_rfl) (Kept.drew wr) (fun hS0=>?_)
   refine tla 0 16 ?_
   refine tla 1 17 ?_
   refine tla 2 18 ?_
   refine tla 3 19 ?_
   refine twa 4 20 ?_
   refine twa 5 21 ?_
   refine twa 6 22 ?_
   refine twa 7 23 ?_
   refine tla 8 24 ?_
   refine tla 9 25 ?_
   refine tla 10 26 ?_
   refine tla 11 27 ?_
   refine tla 12 28 ?_
   refine tla 13 29 ?_
   refine twa 14 30 ?_
   refine twa 15 31 ?_
   refine twa 16 32 ?_
   refine twa 17 33 ?_
   refine twa 18 34 ?_
   refine tla 19 35 ?_
   refine tla 20 36 ?_
   refine xl 21 fun K hK=>?_
   go_wp2_with fail
   refine hK.out _ _ ?_
   clear hK K
   try simp only[zqd,zqe,zqf]
   have HSa:=hide (SR.set HS1.out (i:=p) (by omega) y).drew
   obtain⟨ya,hya⟩:∃z,World.drew ((wr.setCell ⟨g,p*2,none⟩ (.int .i64 y.1)).setCell ⟨g,p*2+1,none⟩ (.int .i64 y.2))=z:=⟨_,rfl⟩
   rw[hya] at HSa
   first | rw[hya] | rw[show _=ya from hya]
   have HYa:=hide hya
   clear hya
   have ga0:=HSa.out.frozen (r*2)
   have ga1:=HSa.out.frozen (r*2+1)
   obtain⟨mj,hmj⟩:=get_some (d:=d1.set p y) (i:=r) (by rw[List.length_set];omega)
   obtain⟨gb0,gb1⟩:=HSa.out.get hmj
   clear hmj
   refine twa 22 37 ?_
   refine xl 23 fun K hK=>?_
   go_wp2_with fail
   refine hK.out _ _ ?_
   clear hK K
   try simp only[zqd,zqe,zqf]
   refine wpAnyL_done (by kernel_rfl) ?_ _
   clear hS0
   have HSb:=hide (SR.set HSa.out (i:=r) (by omega) x)
   obtain⟨yb,hyb⟩:∃z,((ya.setCell ⟨g,r*2,none⟩ (.int .i64 x.1)).setCell ⟨g,r*2+1,none⟩ (.int .i64 x.2))=z:=⟨_,rfl⟩
   rw[hyb] at HSb
   rw[hyb]
   clear hyb HSa HYa ga0 gb0 ga1 gb1
   clear hl2 cx0 cxf0 cx1 cxf1 cy0 cyf0 cy1 cyf1
   have HW2:Hid (Swp a b (i+1) d (swapL d1 p r)):=hide (by rw[←HP.out,←HR.out];exact HW.out.step (n:=q) hlt hab (by rw[HL.out];exact hbn))
   have HSc:Hid (SR v0 B g n cap (swapL d1 p r) yb):=hide (by rw[swapL_eq HX.out HY.out];exact HSb.out)
   clear HSb HS1 HW HX HY
   go_wp2
   go_roundw
   case rel=>exact⟨i+1,_,by omega,by go_num,HSc,HW2⟩
   case measure=>simp[intOf];omega
  obtain rfl:i=q:=by omega
  have HFin:=hide (show ∃d',SR v0 B g n cap d' wr∧Swp a b i d d' from ⟨d1,HS1.out,HW.out⟩)
  go_wp2
  go_end0
  exact⟨rfl,HFin.out⟩
theorem rot_any (v0 w:World) (B g n cap:Nat) (d:List Ms) (a m b:Nat) (hS:SR v0 B g n cap d w) (ham:a<m) (hmb:m<b) (hbn:b≤n) (hn:n≤1000000) :
  Calls Tryz.prog 116 #[.slice (some ⟨g,0,none⟩) n cap,.int .i64 (a:Int),.int .i64 (m:Int),.int .i64 (b:Int),.func (.func 106) #[] #[]] w (fun e w'=>e = .returned (.tuple #[])∧SR v0 B g n cap (rotL a m b d) w'):=by
 have HS:=hide hS
 clear hS
 have e1:(m:Int)-(a:Int)=((m-a:Nat):Int):=by omega
 have e2:(b:Int)-(m:Int)=((b-m:Nat):Int):=by omega
 have e3:IntKind.i64.wrap ((m-a:Nat):Int)=((m-a:Nat):Int):=i64_nat _ (by omega)
 have e4:IntKind.i64.wrap ((b-m:Nat):Int)=((b-m:Nat):Int):=i64_nat _ (by omega)
 obtain⟨i0,hi0⟩:∃z,m-a=z:=⟨_,rfl⟩
 obtain⟨j0,hj0⟩:∃z,b-m=z:=⟨_,rfl⟩
 rw[hi0] at e1 e3
 rw[hj0] at e2 e4
 have HI0:=hide hi0
 have HJ0:=hide hj0
 have hi1:0<i0∧i0≤m:=by omega
 have hj1:0<j0∧m+j0≤n:=by omega
 have HT:Hid (rotL a m b d=rotL (m-i0) m (m+j0) d):=hide (by rw[show m-i0=a by omega,show m+j0=b by omega])
 clear hi0 hj0
 go_enter Tryz.func116,Tryz.ntmps116
 go_wp2
 go_loopw [10,11] (fun v10 v11 wr=>∃(i j:Nat) (d1:List Ms),(0<i∧i≤m)∧(0<j∧m+j≤n)∧v10 = .int .i64 (i:Int)∧v11 = .int .i64 (j:Int)∧Hid (SR v0 B g n cap d1 wr)∧Hid (rotL a m b d=rotL (m-i) m (m+j) d1)) (fun v10 v11 _=>(intOf v10).toNat+(intOf v11).toNat)
 case atStart=>exact⟨i0,j0,d,hi1,hj1,rfl,rfl,HS,HT⟩
 case round=>
  clear e1 e2 e3 e4 HT hi1 hj1
  obtain⟨i,j,d1,hi,hj,rfl,rfl,HS1,HT⟩:=hrel
  have hl1:=hide HS1.out.1
  obtain⟨p,hp⟩:∃p,m-i=p:=⟨_,rfl⟩
  have f1:(m:Int)-(i:Int)=(p:Int):=by omega
  have f2:IntKind.i64.wrap (p:Int)=(p:Int):=i64_nat _ (by omega)
  have HP:=hide hp
  rcases (show i=j∨j<i∨i<j by omega) with hij | hij | hij
  ·subst hij
   have HPm:=HP
   go_wp2_with fail
   refine (swr_any v0 _ B g n cap d1 p m i HS1.out (by omega) (by omega) hn).mono ?_
   rintro e w2 ⟨rfl,d2,hs2,hw2⟩
   have HS2:=hide hs2
   have HW2:=hide hw2
   clear hs2 hw2
   have HFin:=hide (show SR v0 B g n cap (rotL a m b d) w2 by rw[HT.out,rot_eq (by omega) (by rw[hl1.out];omega) (by rw[HP.out];exact HW2.out)];exact HS2.out)
   go_wp2
   go_end0
   exact⟨rfl,HFin.out⟩
  ·have hne:((i:Int) != (j:Int))=true:=by simp;omega
   have hgt:(j:Int)<(i:Int):=by omega
   go_wp2_with fail
   refine (swr_any v0 _ B g n cap d1 p m j HS1.out (by omega) (by omega) hn).mono ?_
   rintro e w2 ⟨rfl,d2,hs2,hw2⟩
   have HS2:=hide hs2
   have HW2:=hide hw2
   clear hs2 hw2
   have g1:(i:Int)-(j:Int)=((i-j:Nat):Int):=by omega
   have g2:IntKind.i64.wrap ((i-j:Nat):Int)=((i-j:Nat):Int):=i64_nat _ (by omega)
   obtain⟨i2,hi2⟩:∃z,i-j=z:=⟨_,rfl⟩
   rw[hi2] at g1 g2
   have HT2:Hid (rotL a m b d=rotL (m-i2) m (m+j) d2):=hide (by rw[HT.out,←hi2];exact rot_gt hij (by omega) (by rw[hl1.out];omega) (by rw[HP.out];exact HW2.out))
   have hb1:(0<i2∧i2≤m)∧i2+j<i+j:=by omega
   clear HT hi2 HW2 HS1
   go_wp2
   go_roundw
   case rel=>exact⟨i2,j,d2,hb1.1,hj,by first | rfl | go_num,by first | rfl | go_num,HS2,HT2⟩
   case measure=>simp[intOf];omega
  have hne:((i:Int) != (j:Int))=true:=by simp;omega
  have hgt:¬(j:Int)<(i:Int):=by omega
  obtain⟨s,hs⟩:∃s,m+j=s:=⟨_,rfl⟩
  obtain⟨r,hr⟩:∃r,s-i=r:=⟨_,rfl⟩
  have k1:(m:Int)+(j:Int)=(s:Int):=by omega
  have k2:(s:Int)-(i:Int)=(r:Int):=by omega
  have k3:IntKind.i64.wrap (s:Int)=(s:Int):=i64_nat _ (by omega)
  have k4:IntKind.i64.wrap (r:Int)=(r:Int):=i64_nat _ (by omega)
  have HRr:=hide (show m+j-i=r by omega)
  go_wp2_with fail
  refine (swr_any v0 _ B g n cap d1 p r i HS1.out (by omega) (by omega) hn).mono ?_
  rintro e w2 ⟨rfl,d2,hs2,hw2⟩
  have HS2:=hide hs2
  have HW2:=hide hw2
  clear hs2 hw2
  have g1:(j:Int)-(i:Int)=((j-i:Nat):Int):=by omega
  have g2:IntKind.i64.wrap ((j-i:Nat):Int)=((j-i:Nat):Int):=i64_nat _ (by omega)
  obtain⟨j2,hj2⟩:∃z,j-i=z:=⟨_,rfl⟩
  rw[hj2] at g1 g2
  have HT2:Hid (rotL a m b d=rotL (m-i) m (m+j2) d2):=hide (by rw[HT.out,←hj2];exact rot_lt hij (by omega) (by rw[hl1.out];omega) (by rw[HP.out,HRr.out];exact HW2.out))
  have hb1:(0<j2∧m+j2≤n)∧i+j2<i+j:=by omega
  clear HT hj2 HW2 HS1 hs hr k1 k2 k3 k4
  go_wp2
  go_roundw
  case rel=>exact⟨i,j2,d2,hi,hb1.1,by first | rfl | go_num,by first | rfl | go_num,HS2,HT2⟩
  case measure=>simp[intOf];omega
theorem u64_nat (x:Nat) (h:x≤18446744073709551615):IntKind.u64.wrap (x:Int)=(x:Int):=IntWalk.u64_in _ (by omega)
theorem w64_nat (x:Nat) (h:x≤9223372036854775807):wrap64 (x:Int)=(x:Int):=IntWalk.wrap64_in _ (by omega)
theorem rotL_nil {α:Type} {s m e:Nat} {d:List α} (h:s=m∨e=m) (h2:s≤m∧m≤e) (h3:e≤d.length):rotL s m e d=d:=by
 refine ext_get fun t=>?_
 rw[rotL_get h2.1 h2.2 h3]
 by_cases c1:t<s
 ·rw[if_pos c1]
 rw[if_neg c1]
 by_cases c2:t<s+(e-m)
 ·rw[if_pos c2];congr 1;omega
 rw[if_neg c2]
 by_cases c3:t<e
 ·rw[if_pos c3];congr 1;omega
 rw[if_neg c3]
theorem symA_any (κ:Ms→Int) (v0:World) (B g n cap:Nat) (hn:n≤1000000) (w:World) (d:List Ms) (a m b:Nat) (hS:SR v0 B g n cap d w) (ham:a<m) (hmb:m<b) (hbn:b≤n) (hA:m=a+1) :
  Calls Tryz.prog 115 #[.slice (some ⟨g,0,none⟩) n cap,.int .i64 (a:Int),.int .i64 (m:Int),.int .i64 (b:Int),.func (.func 106) #[] #[]] w (fun e w'=>e = .returned (.tuple #[])∧∃d',SR v0 B g n cap d' w'∧SymR ltF κ a m b d d'):=by
 have HS:=hide hS
 have HL:=hide hS.1
 clear hS
 have q1:(m:Int)-(a:Int)=1:=by omega
 have HA:=hide hA
 clear hA
 go_enter Tryz.func115,Tryz.ntmps115
 go_wp2
 go_loopw [10,11] (fun v10 v11 wr=>∃(i j:Nat),(m≤i∧i≤j∧j≤b)∧v10 = .int .i64 (i:Int)∧v11 = .int .i64 (j:Int)∧Hid (SR v0 B g n cap d wr)∧Hid (One1 ltF κ a b i j d)) (fun v10 v11 _=>(intOf v11).toNat-(intOf v10).toNat)
 case atStart=>exact⟨m,b,by omega,rfl,rfl,HS,hide (by rw[HA.out];exact One1.start a b d)⟩
 case round=>
  have hA:=HA.out
  obtain⟨i,j,hij,rfl,rfl,HS1,HO⟩:=hrel
  by_cases hlt:i<j
  ·have hI:(i:Int)<(j:Int):=by omega
   obtain⟨s,hs⟩:∃z,i+j=z:=⟨_,rfl⟩
   obtain⟨h,hh⟩:∃z,s / 2=z:=⟨_,rfl⟩
   have bs:s≤9223372036854775807:=by omega
   have bh:h≤9223372036854775807:=by omega
   have hb1:i≤h∧h<j:=by omega
   have hhn:h<n:=by omega
   have han:a<n:=by omega
   have lh:(h:Int)<(n:Int):=by omega
   have la:(a:Int)<(n:Int):=by omega
   have wa:IntKind.i64.wrap (a:Int)=(a:Int):=i64_nat _ (by omega)
   obtain⟨y,hy⟩:=get_some (d:=d) (i:=h) (by have:=HL.out;omega)
   obtain⟨x,hx⟩:=get_some (d:=d) (i:=a) (by have:=HL.out;omega)
   obtain⟨cy0,cy1⟩:=HS1.out.get hy
   have cyf0:=HS1.out.frozen (h*2)
   have cyf1:=HS1.out.frozen (h*2+1)
   obtain⟨cx0,cx1⟩:=HS1.out.get hx
   have cxf0:=HS1.out.frozen (a*2)
   have cxf1:=HS1.out.frozen (a*2+1)
   have lg:=HS1.out.glt
   obtain⟨z,hz⟩:∃z,cmpI y x=z:=⟨_,rfl⟩
   have HZ:=hide hz
   clear hz
   have HX:=hide hx
   have HY:=hide hy
   have k1:a+1≤h:=by omega
   have k2:h<b:=by omega
   have k3:m≤h+1∧h+1≤j∧j≤b:=by omega
   have k4:m≤i∧i≤h∧h≤b:=by omega
   have w1:IntKind.i64.wrap ((h:Int)+1)=(h:Int)+1:=i64_nat (h+1) (by omega)
   have KK:=hide (And.intro k1 (And.intro k2 (And.intro k3 k4)))
   have HB1:=hide (And.intro hij hb1)
   have f1:(i:Int)+(j:Int)=(s:Int):=by omega
   have f2:(s:Int) / 2=(h:Int):=by omega
   have f3:IntKind.i64.wrap (s:Int)=(s:Int):=i64_nat _ bs
   have f4:IntKind.u64.wrap (s:Int)=(s:Int):=u64_nat _ (Nat.le_trans bs (by decide))
   have f5:wrap64 (h:Int)=(h:Int):=w64_nat _ bh
   have f6:IntKind.i64.wrap (h:Int)=(h:Int):=i64_nat _ bh
   clear hx hy hs hh hb1 hij k1 k2 k3 k4 hA
   go_upto_region 5 with fail
   refine wp_region_held_drew (S:=Kept wr) (by kernel_rfl) (Kept.drew wr) (fun hS0=>?_)
   refine tka 0 40 ?_
   refine tka 1 41 ?_
   refine tka 2 42 ?_
   refine tka 3 43 ?_
   refine tka 4 44 ?_
   refine tka 5 45 ?_
   refine tka 6 46 ?_
   refine tka 7 47 ?_
   refine tka 8 48 ?_
   refine ck 9 49 fun K hK=>?_
   go_simp
   refine (clo_any _ y x).mono ?_
   rintro e z1 ⟨rfl,hz⟩
   rw[HZ.out]
   have hS1:Kept wr z1:=hS0.below (by simp) hz
   have HSz:=hide (HS1.out.drew.below hz)
   clear hz
   go_wp2_with fail
   refine hK.out _ _ hS1 (fun hSn=>?_)
   clear hK K
   try simp only[zqd,zqe,zqf]
   refine tka 10 50 ?_
   refine wpAnyH_done (by kernel_rfl) ?_ _
   clear hS0 hSn hS1 cx0 cxf0 cx1 cxf1 cy0 cyf0 cy1 cyf1 wa
   by_cases hz0:z<0
   ·have HLT:Hid (ltF y x=true):=hide (by unfold ltF;rw[HZ.out];simpa using hz0)
    have HO2:Hid (One1 ltF κ a b (h+1) j d):=hide (HO.out.up KK.out.1 KK.out.2.1 HY.out HX.out HLT.out)
    go_wp2
    clear f1 f2 f3 f4 f5 f6 w1
    go_roundw
    case rel=>first | exact⟨h+1,j,KK.out.2.2.1,by first | rfl | go_num,rfl,HSz,HO2⟩ | ((repeat apply Exists.intro);exact⟨⟨h+1,j,KK.out.2.2.1,by first | rfl | go_num,rfl,HSz,HO2⟩,rfl⟩)
    case measure=>have:=HB1.out;simp[intOf];omega
   have HLT:Hid (ltF y x=false):=hide (by unfold ltF;rw[HZ.out];simpa using hz0)
   have HO2:Hid (One1 ltF κ a b i h d):=hide (HO.out.down KK.out.1 KK.out.2.1 HY.out HX.out HLT.out)
   have hz1:0≤z:=Int.not_lt.1 hz0
   go_wp2
   clear f1 f2 f3 f4 f5 f6 w1
   go_roundw
   case rel=>first | exact⟨i,h,KK.out.2.2.2,rfl,by first | rfl | go_num,HSz,HO2⟩ | ((repeat apply Exists.intro);exact⟨⟨i,h,KK.out.2.2.2,rfl,by first | rfl | go_num,HSz,HO2⟩,rfl⟩)
   case measure=>have:=HB1.out;simp[intOf];omega
  obtain rfl:i=j:=by omega
  obtain⟨i1,hi1⟩:∃z,i=z+1:=⟨i-1,by omega⟩
  have q2:(i:Int)-1=(i1:Int):=by omega
  have hin:i1<n:=by omega
  have hai:a≤i1:=by omega
  have HFin:Hid (SymR ltF κ a m b d (rotL a (a+1) i d)):=hide (by rw[hA];exact HO.out.done (by omega) (by omega) (by have:=HL.out;omega))
  have HI1:=hide hi1
  have q3:IntKind.i64.wrap (i1:Int)=(i1:Int):=i64_nat _ (by omega)
  clear HO hi1 hA
  go_wp2
  go_loopw [13] (fun v13 wr=>∃(k:Nat),(a≤k∧k≤i1)∧v13 = .int .i64 (k:Int)∧Hid (SR v0 B g n cap (rotL a (a+1) (k+1) d) wr)) (fun v13 _=>i1-(intOf v13).toNat)
  case atStart=>exact⟨a,by omega,rfl,hide (by rw[rot_id1 (by have:=HL.out;omega)];exact HS1.out)⟩
  case round=>
   clear HS1
   obtain⟨k,hk,rfl,HS1⟩:=hrel
   by_cases hlt2:k<i1
   ·have hK:(k:Int)<(i1:Int):=by omega
    obtain⟨k1,hk1⟩:∃z,k+1=z:=⟨_,rfl⟩
    have hk1n:k1<n:=by omega
    have hkn:k<n:=by omega
    have lk:(k:Int)<(n:Int):=by omega
    have lk1:(k1:Int)<(n:Int):=by omega
    have hlen:=HS1.out.1
    obtain⟨x,hx⟩:=get_some (d:=rotL a (a+1) (k+1) d) (i:=k) (by omega)
    obtain⟨y,hy⟩:=get_some (d:=rotL a (a+1) (k+1) d) (i:=k1) (by omega)
    obtain⟨cx0,cx1⟩:=HS1.out.get hx
    have cxf0:=HS1.out.frozen (k*2)
    have cxf1:=HS1.out.frozen (k*2+1)
    obtain⟨cy0,cy1⟩:=HS1.out.get hy
    have cyf0:=HS1.out.frozen (k1*2)
    have cyf1:=HS1.out.frozen (k1*2+1)
    have lg:=HS1.out.glt
    have HX:=hide hx
    have HY:=hide hy
    have HK1:=hide hk1
    have e1:(k:Int)+1=(k1:Int):=by omega
    have e2:IntKind.i64.wrap (k1:Int)=(k1:Int):=i64_nat _ (by omega)
    have e3:IntKind.i64.wrap (k:Int)=(k:Int):=i64_nat _ (by omega)
    have hl2:=hlen
    clear hx hy hk1 hlen
    go_upto_region 11 with fail
    refine wpL_region (S:=Kept wr) [15,17] (by kernel_rfl) (Kept.drew wr) (fun hS0=>?_)
    refine tla 0 61 ?_
    refine tla 1 62 ?_
    refine twa 2 63 ?_
    refine twa 3 64 ?_
    refine twa 4 65 ?_
    refine tla 5 66 ?_
    refine tla 6 67 ?_
    refine tla 7 68 ?_
    refine tla 8 69 ?_
    refine tla 9 70 ?_
    refine twa 10 71 ?_
    refine twa 11 72 ?_
    refine twa 12 73 ?_
    refine tla 13 74 ?_
    refine tla 14 75 ?_
    refine xl 15 fun K hK=>?_
    go_wp2_with fail
    refine hK.out _ _ ?_
    clear hK K
    try simp only[zqd,zqe,zqf]
    have HSa:=hide (SR.set HS1.out (i:=k) (by omega) y).drew
    obtain⟨ya,hya⟩:∃z,World.drew ((wr.setCell ⟨g,k*2,none⟩ (.int .i64 y.1)).setCell ⟨g,k*2+1,none⟩ (.int .i64 y.2))=z:=⟨_,rfl⟩
    rw[hya] at HSa
    first | rw[hya] | rw[show _=ya from hya]
    have HYa:=hide hya
    clear hya
    have ga0:=HSa.out.frozen (k1*2)
    have ga1:=HSa.out.frozen (k1*2+1)
    obtain⟨mj,hmj⟩:=get_some (d:=(rotL a (a+1) (k+1) d).set k y) (i:=k1) (by rw[List.length_set];omega)
    obtain⟨gb0,gb1⟩:=HSa.out.get hmj
    clear hmj
    refine twa 16 76 ?_
    refine xl 17 fun K hK=>?_
    go_wp2_with fail
    refine hK.out _ _ ?_
    clear hK K
    try simp only[zqd,zqe,zqf]
    refine wpAnyL_done (by kernel_rfl) ?_ _
    clear hS0
    have HSb:=hide (SR.set HSa.out (i:=k1) (by omega) x)
    obtain⟨yb,hyb⟩:∃z,((ya.setCell ⟨g,k1*2,none⟩ (.int .i64 x.1)).setCell ⟨g,k1*2+1,none⟩ (.int .i64 x.2))=z:=⟨_,rfl⟩
    rw[hyb] at HSb
    rw[hyb]
    clear hyb HSa HYa ga0 gb0 ga1 gb1
    clear hl2 cx0 cxf0 cx1 cxf1 cy0 cyf0 cy1 cyf1
    have HSc:Hid (SR v0 B g n cap (rotL a (a+1) (k1+1) d) yb):=hide (by have e:=rot_one (a:=a) (k:=k) (d:=d) (by omega) (by have:=HL.out;have:=HK1.out;omega);rw[HK1.out] at e;rw[←e,←HK1.out,HK1.out,show swapL (rotL a (a+1) k1 d) k k1=swapL (rotL a (a+1) (k+1) d) k k1 by rw[HK1.out],swapL_eq HX.out HY.out];exact HSb.out)
    clear HSb HS1 HX HY
    have hkk:(a≤k1∧k1≤i1)∧k<k1:=by have:=HK1.out;omega
    go_wp2
    go_roundw
    case rel=>first | exact⟨k1,hkk.1,by first | rfl | go_num,HSc⟩ | ((repeat apply Exists.intro);exact⟨⟨k1,hkk.1,by first | rfl | go_num,HSc⟩,rfl⟩)
    case measure=>simp[intOf];omega
   obtain rfl:k=i1:=by omega
   have HFin2:=hide (show ∃d',SR v0 B g n cap d' wr∧SymR ltF κ a m b d d' from ⟨rotL a (a+1) i d,by rw[HI1.out];exact HS1.out,HFin.out⟩)
   go_wp2
   refine bodyPost_ret (results_none rfl _ _ _) rfl ?_
   exact⟨rfl,HFin2.out⟩
theorem symB_any (κ:Ms→Int) (v0:World) (B g n cap:Nat) (hn:n≤1000000) (w:World) (d:List Ms) (a m b:Nat) (hS:SR v0 B g n cap d w) (ham:a<m) (hmb:m<b) (hbn:b≤n) (hA:¬m=a+1) (hB:b=m+1) :
  Calls Tryz.prog 115 #[.slice (some ⟨g,0,none⟩) n cap,.int .i64 (a:Int),.int .i64 (m:Int),.int .i64 (b:Int),.func (.func 106) #[] #[]] w (fun e w'=>e = .returned (.tuple #[])∧∃d',SR v0 B g n cap d' w'∧SymR ltF κ a m b d d'):=by
 have HS:=hide hS
 have HL:=hide hS.1
 clear hS
 have q1:(m:Int)-(a:Int)=((m-a:Nat):Int):=by omega
 have q2:(b:Int)-(m:Int)=1:=by omega
 obtain⟨ma,hma⟩:∃z,m-a=z:=⟨_,rfl⟩
 rw[hma] at q1
 have q3:¬(ma:Int)=1:=by omega
 have q5:((ma:Int) == 1)=false:=by simp;omega
 have q4:IntKind.i64.wrap (ma:Int)=(ma:Int):=i64_nat _ (by omega)
 have HB:=hide hB
 clear hma hB hA
 go_enter Tryz.func115,Tryz.ntmps115
 go_wp2
 go_loopw [14,15] (fun v14 v15 wr=>∃(i j:Nat),(a≤i∧i≤j∧j≤m)∧v14 = .int .i64 (i:Int)∧v15 = .int .i64 (j:Int)∧Hid (SR v0 B g n cap d wr)∧Hid (One2 ltF κ a m i j d)) (fun v14 v15 _=>(intOf v15).toNat-(intOf v14).toNat)
 case atStart=>exact⟨a,m,by omega,rfl,rfl,HS,hide (One2.start a m d)⟩
 case round=>
  obtain⟨i,j,hij,rfl,rfl,HS1,HO⟩:=hrel
  by_cases hlt:i<j
  ·have hI:(i:Int)<(j:Int):=by omega
   obtain⟨s,hs⟩:∃z,i+j=z:=⟨_,rfl⟩
   obtain⟨h,hh⟩:∃z,s / 2=z:=⟨_,rfl⟩
   have bs:s≤9223372036854775807:=by omega
   have bh:h≤9223372036854775807:=by omega
   have hb1:i≤h∧h<j:=by omega
   have hhn:h<n:=by omega
   have hmn:m<n:=by omega
   have lh:(h:Int)<(n:Int):=by omega
   have lm:(m:Int)<(n:Int):=by omega
   have wm:IntKind.i64.wrap (m:Int)=(m:Int):=i64_nat _ (by omega)
   obtain⟨y,hy⟩:=get_some (d:=d) (i:=h) (by have:=HL.out;omega)
   obtain⟨x,hx⟩:=get_some (d:=d) (i:=m) (by have:=HL.out;omega)
   obtain⟨cy0,cy1⟩:=HS1.out.get hy
   have cyf0:=HS1.out.frozen (h*2)
   have cyf1:=HS1.out.frozen (h*2+1)
   obtain⟨cx0,cx1⟩:=HS1.out.get hx
   have cxf0:=HS1.out.frozen (m*2)
   have cxf1:=HS1.out.frozen (m*2+1)
   have lg:=HS1.out.glt
   obtain⟨z,hz⟩:∃z,cmpI x y=z:=⟨_,rfl⟩
   have HZ:=hide hz
   clear hz
   have HX:=hide hx
   have HY:=hide hy
   have k1:a≤h:=by omega
   have k2:h<m:=by omega
   have k3:a≤h+1∧h+1≤j∧j≤m:=by omega
   have k4:a≤i∧i≤h∧h≤m:=by omega
   have w1:IntKind.i64.wrap ((h:Int)+1)=(h:Int)+1:=i64_nat (h+1) (by omega)
   have KK:=hide (And.intro k1 (And.intro k2 (And.intro k3 k4)))
   have HB1:=hide (And.intro hij hb1)
   have f1:(i:Int)+(j:Int)=(s:Int):=by omega
   have f2:(s:Int) / 2=(h:Int):=by omega
   have f3:IntKind.i64.wrap (s:Int)=(s:Int):=i64_nat _ bs
   have f4:IntKind.u64.wrap (s:Int)=(s:Int):=u64_nat _ (Nat.le_trans bs (by decide))
   have f5:wrap64 (h:Int)=(h:Int):=w64_nat _ bh
   have f6:IntKind.i64.wrap (h:Int)=(h:Int):=i64_nat _ bh
   clear hx hy hs hh hb1 hij k1 k2 k3 k4
   go_upto_region 17 with fail
   refine wp_region_held_drew (S:=Kept wr) (by kernel_rfl) (Kept.drew wr) (fun hS0=>?_)
   refine tka 0 92 ?_
   refine tka 1 93 ?_
   refine tka 2 94 ?_
   refine tka 3 95 ?_
   refine tka 4 96 ?_
   refine tka 5 97 ?_
   refine tka 6 98 ?_
   refine tka 7 99 ?_
   refine tka 8 100 ?_
   refine ck 9 101 fun K hK=>?_
   go_simp
   refine (clo_any _ x y).mono ?_
   rintro e z1 ⟨rfl,hz⟩
   rw[HZ.out]
   have hS1:Kept wr z1:=hS0.below (by simp) hz
   have HSz:=hide (HS1.out.drew.below hz)
   clear hz
   go_wp2_with fail
   refine hK.out _ _ hS1 (fun hSn=>?_)
   clear hK K
   try simp only[zqd,zqe,zqf]
   refine tka 10 102 ?_
   refine tka 11 103 ?_
   refine wpAnyH_done (by kernel_rfl) ?_ _
   clear hS0 hSn hS1 cx0 cxf0 cx1 cxf1 cy0 cyf0 cy1 cyf1 wm
   by_cases hz0:z<0
   ·have hz2:¬0≤z:=Int.not_le.2 hz0
    have hd:(!decide (z<0))=false:=by simp[hz0]
    rw[hd]
    clear hd
    have HLT:Hid (ltF x y=true):=hide (by unfold ltF;rw[HZ.out];simpa using hz0)
    have HO2:Hid (One2 ltF κ a m i h d):=hide (HO.out.down KK.out.1 KK.out.2.1 HY.out HX.out HLT.out)
    go_wp2
    clear f1 f2 f3 f4 f5 f6 w1
    go_roundw
    case rel=>first | exact⟨i,h,KK.out.2.2.2,rfl,by first | rfl | go_num,HSz,HO2⟩ | ((repeat apply Exists.intro);exact⟨⟨i,h,KK.out.2.2.2,rfl,by first | rfl | go_num,HSz,HO2⟩,rfl⟩)
    case measure=>have:=HB1.out;simp[intOf];omega
   have hd:(!decide (z<0))=true:=by rw[decide_eq_false hz0];rfl
   rw[hd]
   clear hd
   have HLT:Hid (ltF x y=false):=hide (by unfold ltF;rw[HZ.out];simpa using hz0)
   have HO2:Hid (One2 ltF κ a m (h+1) j d):=hide (HO.out.up KK.out.1 KK.out.2.1 HY.out HX.out HLT.out)
   have hz1:0≤z:=Int.not_lt.1 hz0
   go_wp2
   clear f1 f2 f3 f4 f5 f6 w1
   go_roundw
   case rel=>first | exact⟨h+1,j,KK.out.2.2.1,by first | rfl | go_num,rfl,HSz,HO2⟩ | ((repeat apply Exists.intro);exact⟨⟨h+1,j,KK.out.2.2.1,by first | rfl | go_num,rfl,HSz,HO2⟩,rfl⟩)
   case measure=>have:=HB1.out;simp[intOf];omega
  obtain rfl:i=j:=by omega
  have HFin:Hid (SymR ltF κ a m b d (rotL i m (m+1) d)):=hide (by rw[HB.out];exact HO.out.done (by omega) (by omega) (by have:=HL.out;omega))
  clear HO
  go_wp2
  go_loopw [17] (fun v17 wr=>∃(k:Nat),(i≤k∧k≤m)∧v17 = .int .i64 (k:Int)∧Hid (SR v0 B g n cap (rotL k m (m+1) d) wr)) (fun v17 _=>(intOf v17).toNat-i)
  case atStart=>exact⟨m,by omega,rfl,hide (by rw[rot_id2 (by have:=HL.out;omega)];exact HS1.out)⟩
  case round=>
   clear HS1
   obtain⟨k1,hk,rfl,HS1⟩:=hrel
   by_cases hlt2:i<k1
   ·have hK:(i:Int)<(k1:Int):=by omega
    obtain⟨k,hk1⟩:∃z,k1=z+1:=⟨k1-1,by omega⟩
    have hk1n:k1<n:=by omega
    have hkn:k<n:=by omega
    have lk:(k:Int)<(n:Int):=by omega
    have lk1:(k1:Int)<(n:Int):=by omega
    have hlen:=HS1.out.1
    obtain⟨x,hx⟩:=get_some (d:=rotL k1 m (m+1) d) (i:=k1) (by omega)
    obtain⟨y,hy⟩:=get_some (d:=rotL k1 m (m+1) d) (i:=k) (by omega)
    obtain⟨cx0,cx1⟩:=HS1.out.get hx
    have cxf0:=HS1.out.frozen (k1*2)
    have cxf1:=HS1.out.frozen (k1*2+1)
    obtain⟨cy0,cy1⟩:=HS1.out.get hy
    have cyf0:=HS1.out.frozen (k*2)
    have cyf1:=HS1.out.frozen (k*2+1)
    have lg:=HS1.out.glt
    have HX:=hide hx
    have HY:=hide hy
    have HK1:=hide hk1
    have e1:(k1:Int)-1=(k:Int):=by omega
    have e2:IntKind.i64.wrap (k:Int)=(k:Int):=i64_nat _ (by omega)
    have e3:IntKind.i64.wrap (k1:Int)=(k1:Int):=i64_nat _ (by omega)
    have hl2:=hlen
    clear hx hy hk1 hlen
    go_upto_region 23 with fail
    refine wpL_region (S:=Kept wr) [15,17] (by kernel_rfl) (Kept.drew wr) (fun hS0=>?_)
    refine tla 0 113 ?_
    refine tla 1 114 ?_
    refine twa 2 115 ?_
    refine twa 3 116 ?_
    refine twa 4 117 ?_
    refine tla 5 118 ?_
    refine tla 6 119 ?_
    refine tla 7 120 ?_
    refine tla 8 121 ?_
    refine tla 9 122 ?_
    refine twa 10 123 ?_
    refine twa 11 124 ?_
    refine twa 12 125 ?_
    refine tla 13 126 ?_
    refine tla 14 127 ?_
    refine xl 15 fun K hK=>?_
    go_wp2_with fail
    refine hK.out _ _ ?_
    clear hK K
    try simp only[zqd,zqe,zqf]
    have HSa:=hide (SR.set HS1.out (i:=k1) (by omega) y).drew
    obtain⟨ya,hya⟩:∃z,World.drew ((wr.setCell ⟨g,k1*2,none⟩ (.int .i64 y.1)).setCell ⟨g,k1*2+1,none⟩ (.int .i64 y.2))=z:=⟨_,rfl⟩
    rw[hya] at HSa
    first | rw[hya] | rw[show _=ya from hya]
    have HYa:=hide hya
    clear hya
    have ga0:=HSa.out.frozen (k*2)
    have ga1:=HSa.out.frozen (k*2+1)
    obtain⟨mj,hmj⟩:=get_some (d:=(rotL k1 m (m+1) d).set k1 y) (i:=k) (by rw[List.length_set];omega)
    obtain⟨gb0,gb1⟩:=HSa.out.get hmj
    clear hmj
    refine twa 16 128 ?_
    refine xl 17 fun K hK=>?_
    go_wp2_with fail
    refine hK.out _ _ ?_
    clear hK K
    try simp only[zqd,zqe,zqf]
    refine wpAnyL_done (by kernel_rfl) ?_ _
    clear hS0
    have HSb:=hide (SR.set HSa.out (i:=k) (by omega) x)
    obtain⟨yb,hyb⟩:∃z,((ya.setCell ⟨g,k*2,none⟩ (.int .i64 x.1)).setCell ⟨g,k*2+1,none⟩ (.int .i64 x.2))=z:=⟨_,rfl⟩
    rw[hyb] at HSb
    rw[hyb]
    clear hyb HSa HYa ga0 gb0 ga1 gb1
    clear hl2 cx0 cxf0 cx1 cxf1 cy0 cyf0 cy1 cyf1
    have HSc:Hid (SR v0 B g n cap (rotL k m (m+1) d) yb):=hide (by have e:=rot_last (k:=k) (m:=m) (d:=d) (by have:=HK1.out;omega) (by have:=HL.out;omega);rw[←HK1.out] at e;rw[←e,swapL_eq HX.out HY.out];exact HSb.out)
    clear HSb HS1 HX HY
    have hkk:(i≤k∧k≤m)∧k<k1:=by have:=HK1.out;omega
    go_wp2
    go_roundw
    case rel=>first | exact⟨k,hkk.1,by first | rfl | go_num,HSc⟩ | ((repeat apply Exists.intro);exact⟨⟨k,hkk.1,by first | rfl | go_num,HSc⟩,rfl⟩)
    case measure=>simp[intOf];omega
   obtain rfl:k1=i:=by omega
   have HFin2:=hide (show ∃d',SR v0 B g n cap d' wr∧SymR ltF κ a m b d d' from ⟨rotL k1 m (m+1) d,HS1.out,HFin.out⟩)
   go_wp2
   refine bodyPost_ret (results_none rfl _ _ _) rfl ?_
   exact⟨rfl,HFin2.out⟩
theorem ins_any (κ:Ms→Int) (v0 w:World) (B g n cap:Nat) (d:List Ms) (a b:Nat) (hS:SR v0 B g n cap d w) (hab:a≤b) (hbn:b≤n) (hn:n≤1000000) :
  Calls Tryz.prog 114 #[.slice (some ⟨g,0,none⟩) n cap,.int .i64 (a:Int),.int .i64 (b:Int),.func (.func 106) #[] #[]] w (fun e w'=>e = .returned (.tuple #[])∧∃d',SR v0 B g n cap d' w'∧Mv a b d d'∧(KeyOn ltF κ d→Srt κ a b d'∧Stb κ d d')):=by
 have HS:=hide hS
 have ea:IntKind.i64.wrap ((a:Int)+1)=(a:Int)+1:=IntWalk.i64_in _ (by omega)
 clear hS
 go_enter Tryz.func114,Tryz.ntmps114
 go_wp2
 go_loopw [8] (fun v8 wr=>∃(i:Nat) (d1:List Ms),a+1≤i∧(i≤b∨i=a+1)∧v8 = .int .i64 (i:Int)∧Hid (SR v0 B g n cap d1 wr)∧Hid (InsO ltF κ a b i d d1)) (fun v8 _=>b-(intOf v8).toNat)
 case atStart=>exact⟨a+1,d,by omega,.inr rfl,by go_num,HS,hide (InsO.start a b d)⟩
 case round=>
  obtain⟨i,d1,hi1,hi2,rfl,HS1,HI1⟩:=hrel
  obtain⟨wo,rfl⟩:∃z:World,z=wr:=⟨_,rfl⟩
  by_cases hlt:i<b
  ·have hib:(i:Int)<(b:Int):=by omega
   go_wp2
   go_loopw [9] (fun v9 wr=>∃(j:Nat) (d2:List Ms),a≤j∧j≤i∧v9 = .int .i64 (j:Int)∧Hid (SR v0 B g n cap d2 wr)∧Hid (InsI ltF κ a b i j d d2)) (fun v9 _=>(intOf v9).toNat)
   case atStart=>exact⟨i,d1,by omega,by omega,rfl,HS1,hide HI1.out.inner⟩
   case round=>
    clear HS1 HI1
    obtain⟨j,d2,hja,hji,rfl,HS2,HI2⟩:=hrel
    by_cases hj:j=a
    ·obtain rfl:j=a:=by omega
     have hng:¬(j:Int) > (j:Int):=by omega
     go_upto_region 4 with fail
     refine wp_region_held_drew (S:=Kept wr) (by kernel_rfl) (Kept.drew wr) (fun hS0=>?_)
     refine tka 0 18 ?_
     refine tka 1 19 ?_
     refine tka 2 20 ?_
     refine tka 3 21 ?_
     refine ska 4 22 ?_
     refine ska 5 23 ?_
     refine ska 6 24 ?_
     refine ska 7 25 ?_
     refine ska 8 26 ?_
     refine ska 9 27 ?_
     refine ska 10 28 ?_
     refine ska 11 29 ?_
     refine ska 12 30 ?_
     refine ska 13 31 ?_
     refine ska 14 32 ?_
     refine ska 15 33 ?_
     refine tka 16 34 ?_
     refine wpAnyH_done (by kernel_rfl) ?_ _
     clear hS0
     have HIO:=hide (HI2.out.stop (.inl rfl))
     have HSx:=hide HS2.out.drew
     go_wp2
     go_roundw
     case rel=>exact⟨i+1,d2,by omega,by omega,by go_num,HSx,HIO⟩
     case measure=>simp[intOf];omega
    obtain⟨k,hk⟩:∃k,j=k+1:=⟨j-1,by omega⟩
    have hjn:j≤n:=by omega
    have e1:IntKind.i64.wrap ((j:Int)-1)=(k:Int):=by rw[show (j:Int)-1=(k:Int) by omega];exact IntWalk.i64_in _ (by omega)
    have e2:(j:Int)-1=(k:Int):=by omega
    have e3:IntKind.i64.wrap (k:Int)=(k:Int):=IntWalk.i64_in _ (by omega)
    have hgt:(a:Int)<(j:Int):=by omega
    have hlen2:=HS2.out.1
    obtain⟨x,hx⟩:=get_some (d:=d2) (i:=j) (by omega)
    obtain⟨y,hy⟩:=get_some (d:=d2) (i:=k) (by omega)
    obtain⟨cx0,cx1⟩:=HS2.out.get hx
    have cxf0:=HS2.out.frozen (j*2)
    have cxf1:=HS2.out.frozen (j*2+1)
    obtain⟨cy0,cy1⟩:=HS2.out.get hy
    have cyf0:=HS2.out.frozen (k*2)
    have cyf1:=HS2.out.frozen (k*2+1)
    have hx1:(j:Int)<(n:Int):=by omega
    have hy1:(k:Int)<(n:Int):=by omega
    have lg:=HS2.out.glt
    obtain⟨z,hz⟩:∃z,cmpI x y=z:=⟨_,rfl⟩
    have HZ:=hide hz
    have HX:=hide hx
    have HY:=hide hy
    have HK:=hide hk
    have HL2:=hide hlen2
    clear hz hx hy hk hlen2
    go_upto_region 4 with fail
    refine wp_region_held_drew (S:=Kept wr) (by kernel_rfl) (Kept.drew wr) (fun hS0=>?_)
    refine tka 0 18 ?_
    refine tka 1 19 ?_
    refine tka 2 20 ?_
    refine tka 3 21 ?_
    refine tka 4 22 ?_
    refine tka 5 23 ?_
    refine tka 6 24 ?_
    refine tka 7 25 ?_
    refine tka 8 26 ?_
    refine tka 9 27 ?_
    refine tka 10 28 ?_
    refine tka 11 29 ?_
    refine tka 12 30 ?_
    refine tka 13 31 ?_
    refine ck 14 32 fun K hK=>?_
    go_simp
    refine (clo_any _ x y).mono ?_
    rintro e z1 ⟨rfl,hz⟩
    rw[HZ.out]
    have hS1:Kept wr z1:=hS0.below (by simp) hz
    have HSz:=hide (HS2.out.drew.below hz)
    clear hz
    go_wp2_with fail
    refine hK.out _ _ hS1 (fun hSn=>?_)
    clear hK K
    try simp only[zqd,zqe,zqf]
    refine tka 15 33 ?_
    refine tka 16 34 ?_
    refine wpAnyH_done (by kernel_rfl) ?_ _
    clear hS0 hSn hS1 cx0 cxf0 cx1 cxf1 cy0 cyf0 cy1 cyf1
    by_cases hz0:z<0
    ·have hlt:ltF x y=true:=by unfold ltF;rw[HZ.out];simpa using hz0
     have HLT:=hide hlt
     clear hlt
     obtain⟨cx0,cx1⟩:=HSz.out.get HX.out
     have cxf0:=HSz.out.frozen (j*2)
     have cxf1:=HSz.out.frozen (j*2+1)
     obtain⟨cy0,cy1⟩:=HSz.out.get HY.out
     have cyf0:=HSz.out.frozen (k*2)
     have cyf1:=HSz.out.frozen (k*2+1)
     have lg2:=HSz.out.glt
     have hjn2:j<n:=by omega
     have hkn2:k<n:=by have:=HK.out;omega
     have hl2:=HL2.out
     go_upto_region 6 with fail
     obtain⟨wq,rfl⟩:∃z,z=z1:=⟨_,rfl⟩
     refine wpL_region (S:=Kept wq) [15,17] (by kernel_rfl) (Kept.drew wq) (fun hS0=>?_)
     refine tla 0 37 ?_
     refine tla 1 38 ?_
     refine twa 2 39 ?_
     refine twa 3 40 ?_
     refine twa 4 41 ?_
     refine tla 5 42 ?_
     refine tla 6 43 ?_
     refine tla 7 44 ?_
     refine tla 8 45 ?_
     refine tla 9 46 ?_
     refine twa 10 47 ?_
     refine twa 11 48 ?_
     refine twa 12 49 ?_
     refine tla 13 50 ?_
     refine tla 14 51 ?_
     refine xl 15 fun K hK=>?_
     go_wp2_with fail
     refine hK.out _ _ ?_
     clear hK K
     try simp only[zqd,zqe,zqf]
     have HSa:=hide (SR.set HSz.out (i:=j) (by omega) y).drew
     obtain⟨ya,hya⟩:∃z,World.drew ((wq.setCell ⟨g,j*2,none⟩ (.int .i64 y.1)).setCell ⟨g,j*2+1,none⟩ (.int .i64 y.2))=z:=⟨_,rfl⟩
     rw[hya] at HSa
     first | rw[hya] | rw[show _=ya from hya]
     have HYa:=hide hya
     clear hya
     have ga0:=HSa.out.frozen (k*2)
     have ga1:=HSa.out.frozen (k*2+1)
     obtain⟨mj,hmj⟩:=get_some (d:=d2.set j y) (i:=k) (by rw[List.length_set];omega)
     obtain⟨gb0,gb1⟩:=HSa.out.get hmj
     clear hmj
     refine twa 16 52 ?_
     refine xl 17 fun K hK=>?_
     go_wp2_with fail
     refine hK.out _ _ ?_
     clear hK K
     try simp only[zqd,zqe,zqf]
     refine wpAnyL_done (by kernel_rfl) ?_ _
     clear hS0
     have HSb:=hide (SR.set HSa.out (i:=k) (by omega) x)
     obtain⟨yb,hyb⟩:∃z,((ya.setCell ⟨g,k*2,none⟩ (.int .i64 x.1)).setCell ⟨g,k*2+1,none⟩ (.int .i64 x.2))=z:=⟨_,rfl⟩
     rw[hyb] at HSb
     rw[hyb]
     clear hyb HSa HYa ga0 gb0 ga1 gb1
     clear hl2 cx0 cxf0 cx1 cxf1 cy0 cyf0 cy1 cyf1
     have HI3:Hid (InsI ltF κ a b i k d (swapL d2 j k)):=hide (by have hI:=HI2.out;have hx:=HX.out;have hk:=HK.out;subst hk;exact hI.step (by omega) (by omega) (by omega) (by have:=HL2.out;omega) hx HY.out HLT.out)
     have HSc:Hid (SR v0 B g n cap (swapL d2 j k) yb):=hide (by rw[swapL_eq HX.out HY.out];exact HSb.out)
     clear HSb HSz HI2 HS2 HX HY HLT HZ
     have hkk:k≤i∧a≤k:=by have:=HK.out;omega
     go_wp2
     go_roundw
     case rel=>exact⟨k,_,hkk.2,hkk.1,by first | rfl | go_num,HSc,HI3⟩
     case measure=>simp[intOf];first | omega | (have:=HK.out;omega)
    have hlt:ltF x y=false:=by unfold ltF;rw[HZ.out];simpa using hz0
    have HLT:=hide hlt
    clear hlt
    have hz1:0≤z:=by omega
    have HIO:=hide (HI2.out.stop (.inr ⟨k,x,y,HK.out,HX.out,HY.out,HLT.out⟩))
    have HSx:=hide HSz.out
    go_wp2
    go_roundw
    case rel=>exact⟨i+1,d2,by omega,by omega,by go_num,HSx,HIO⟩
    case measure=>simp[intOf];omega
  have hib:¬(i:Int)<(b:Int):=by omega
  have HFin:=hide (show ∃d',SR v0 B g n cap d' wo∧Mv a b d d'∧(KeyOn ltF κ d→Srt κ a b d'∧Stb κ d d') from ⟨d1,HS1.out,HI1.out.1,fun hk=>⟨fun s t x y h1 h2 h3 h4 h5=>(HI1.out.2 hk).1 s t x y h1 h2 (by omega) h4 h5,(HI1.out.2 hk).2⟩⟩)
  go_wp2
  go_end0
  exact⟨rfl,HFin.out⟩
end Go.Proofs.YtpojjmbalgmcoaaGreat

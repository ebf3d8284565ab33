/- Lemmas: Sjw. -/
import Derived.Test.YtpojjmbalgmcoaaGreatStWw11
import Derived.Test.YtpojjmbalgmcoaaGreatStWw21
import Derived.Test.YtpojjmbalgmcoaaGreatStWw22
set_option linter.unusedVariables false
set_option linter.unusedSimpArgs false
set_option maxRecDepth 100000
set_option maxHeartbeats 16000000
namespace Go.Proofs.YtpojjmbalgmcoaaGreat
open Go.RowKit
def MR (v0:World) (xs:List Value) (ps:List SPart) (n:Nat):Prop:=∀(q:Nat) (p:SPart),q<n→ps[q]?=some p→∃cs:List Value,cs.length=5∧PVal v0 cs p∧∀j u,cs[j]?=some u→xs[q*5+j]?=some u
def MRow (T:TypeId) (v0 w:World) (ps:List SPart) (A:Option Addr) (n c:Nat):Prop:=∃xs,w.ownsRow v0.heap.size T 5 (.slice A n c) n xs∧MR v0 xs ps n
section
variable {T:TypeId} {v0 w w':World} {ps:List SPart} {A:Option Addr} {n c:Nat}
theorem MRow.zero (T:TypeId) (v0 w:World) (ps:List SPart):MRow T v0 w ps none 0 0:=⟨[],World.ownsRow_nil _ _ _ _,fun q p h=>absurd h (by omega)⟩
theorem MRow.below (h:MRow T v0 w ps A n c) (hb:Below w.heap.size w w'):MRow T v0 w' ps A n c:=by
 obtain⟨xs,ho,hm⟩:=h
 exact⟨xs,own_below ho hb (fun g hg=>(ho.lt g hg).2),hm⟩
theorem MRow.get (h:MRow T v0 w ps A n c) (hk:Kept v0 w) (hs:v0.heap.size≤w.heap.size) {q:Nat} {p:SPart} (hq:q<n) (hp:ps[q]?=some p) :
  ∃(g:Nat) (Ao Av Ac Ai:Option Addr) (no nv nc ni co cv cc ci:Nat),A=some ⟨g,0,none⟩∧g<w.heap.size ∧
   w.cell? ⟨g,q*5,none⟩=some (.int .i64 p.step)∧w.cell? ⟨g,q*5+1,none⟩=some (.slice Ao no co)∧w.cell? ⟨g,q*5+2,none⟩=some (.slice Av nv cv)∧w.cell? ⟨g,q*5+3,none⟩=some (.slice Ac nc cc)∧w.cell? ⟨g,q*5+4,none⟩=some (.slice Ai ni ci) ∧
   SLen p no nv nc ni∧SIn w p Ao Av Ac Ai∧(no≤9223372036854775807∧nv≤9223372036854775807∧nc≤9223372036854775807∧ni≤9223372036854775807):=by
 obtain⟨xs,ho,hm⟩:=h
 obtain⟨g,rfl,_,hlt,_⟩:=own_addr ho (by omega)
 obtain⟨cs,hl,⟨Ao,Av,Ac,Ai,no,nv,nc,ni,co,cv,cc,ci,rfl,h2,h3,h4⟩,hc⟩:=hm q p hq hp
 have hx:=ho.1
 have ha:∀j u,([.int .i64 p.step,.slice Ao no co,.slice Av nv cv,.slice Ac nc cc,.slice Ai ni ci]:List Value)[j]?=some u→w.cell? ⟨g,q*5+j,none⟩=some u:=fun j u hu=>by
  have h1:=hc j u hu
  have h2:=(List.getElem?_eq_some_iff.1 h1).1
  rw[ho.cellAt (q*5+j) (by omega)]
  exact h1
 exact⟨g,Ao,Av,Ac,Ai,no,nv,nc,ni,co,cv,cc,ci,rfl,hlt,ha 0 _ rfl,ha 1 _ rfl,ha 2 _ rfl,ha 3 _ rfl,ha 4 _ rfl,h2,h3.kept hk hs,h4⟩
theorem MRow.row (h:MRow T v0 w ps A ps.length c) (hk:Kept v0 w) (hs:v0.heap.size≤w.heap.size):PRow w A ps:=fun hn=>by
 obtain⟨xs,ho,hm⟩:=h
 have hpos:0<ps.length:=List.length_pos_iff.2 hn
 obtain⟨g,rfl,_,hlt,_⟩:=own_addr ho hpos
 refine⟨g,0,rfl,hlt,fun i x hx=>?_⟩
 obtain⟨cs,hl,hv,hc⟩:=hm i x (List.getElem?_eq_some_iff.1 hx).1 hx
 refine⟨cs,hl,hv.kept hk hs,fun j u hu=>?_⟩
 have h1:=hc j u hu
 have h2:=(List.getElem?_eq_some_iff.1 h1).1
 have h3:=ho.1
 rw[Nat.zero_add,ho.cellAt (i*5+j) (by omega)]
 exact h1
theorem MR.snoc {xs:List Value} (h:MR v0 xs ps n) (hx:xs.length=n*5) {p:SPart} (hp:ps[n]?=some p) {cs:List Value} (hl:cs.length=5) (hv:PVal v0 cs p):MR v0 (xs ++ cs) ps (n+1):=fun q p' hq hp'=>by
 rcases Nat.lt_or_ge q n with h1 | h1
 ·obtain⟨cs',a1,a2,a3⟩:=h q p' h1 hp'
  refine⟨cs',a1,a2,fun j u hu=>?_⟩
  have h2:=(List.getElem?_eq_some_iff.1 hu).1
  rw[List.getElem?_append_left (by omega)]
  exact a3 j u hu
 obtain rfl:q=n:=by omega
 rw[hp] at hp'
 obtain rfl:=Option.some.inj hp'
 refine⟨cs,hl,hv,fun j u hu=>?_⟩
 rw[List.getElem?_append_right (by omega),hx,show q*5+j-q*5=j by omega]
 exact hu
end
theorem statesJoin_go (w:World) (A:Option Addr) (ps:List SPart) (L c:Nat) (hL:ps.length=L) (hP:PRow w A ps) (hc:c≤9223372036854775807) :
  Calls Tryz.prog 14 #[.slice A L c] w fun e W'=>e = .returned (.bool true)∧Below w.heap.size w W':=by
 have HL:=hide hL
 have HP:=hide hP
 have hcm:c≤9223372036854775807:=hc
 clear hL hP hc
 by_cases h8:8<L
 ·have h8':(8:Int)<(L:Int):=by omega
  go_enter Tryz.func14,Tryz.ntmps14
  go_wp2_with fail
  refine (works_any _).mono ?_
  rintro e wk ⟨rfl,hb⟩
  have HF:=hide (hb)
  clear hb
  go_wp2
  go_ret
  exact⟨rfl,HF.out⟩
 have h8':¬(8:Int)<(L:Int):=by omega
 obtain⟨a1,a1i,a1z,a1s,a1b⟩:=info_parts (show (Tryz.prog.info? 64).map (fun i=>(i.zero,i.size,i.bytes))=some (some (.agg #[.int .i64 0,.slice none 0 0,.slice none 0 0,.slice none 0 0,.slice none 0 0]),5,104) by kernel_rfl)
 go_enter Tryz.func14,Tryz.ntmps14
 go_wp2
 go_loopw [4,3] (fun v4 v3 wr=>∃(i:Nat) (Am:Option Addr) (cm:Nat),i≤L∧v4 = .int .i64 (i:Int)∧v3 = .slice Am i cm∧Hid (MRow 64 w wr ps Am i cm)∧Hid (∀(q:Nat) (p:SPart),q<i→ps[q]?=some p→p.own.length≤60)∧Hid (Below w.heap.size w wr)) (fun v4 _ _=>L-(intOf v4).toNat)
 case atStart=>exact⟨0,none,0,by omega,rfl,rfl,hide (MRow.zero _ _ _ _),hide (fun q p h=>absurd h (by omega)),hide (Below.refl _ _)⟩
 case round=>
  obtain⟨i,Am,cm,hi,rfl,rfl,hM,h60,hbr⟩:=hrel
  have srw:w.heap.size≤wr.heap.size:=hbr.out.size
  by_cases hlt:i<L
  ·have hI0:(0:Int)≤(i:Int):=by omega
   have hI1:(i:Int)<(L:Int):=by omega
   obtain⟨p1,hp1⟩:∃p,ps[i]?=some p:=⟨_,List.getElem?_eq_getElem (by rw[HL.out];exact hlt)⟩
   obtain⟨p0,hp0⟩:∃p,ps[0]?=some p:=⟨_,List.getElem?_eq_getElem (by rw[HL.out];omega)⟩
   obtain⟨b,off,rfl,hbl,Ao1,Av1,Ac1,Ai1,no1,nv1,nc1,ni1,co1,cv1,cc1,ci1,hget⟩:=HP.out.get hp1
   obtain⟨d0,d1,d2,d3,d4,hlen,hin,hbd⟩:=hget
   have D10:=hide d0
   have D11:=hide d1
   have D12:=hide d2
   have D13:=hide d3
   have D14:=hide d4
   have HLen1:=hide hlen
   have HIn1:=hide hin
   have HBd1:=hide hbd
   clear d0 d1 d2 d3 d4 hlen hin hbd
   obtain⟨b9,off9,hbe,-,Ao0,Av0,Ac0,Ai0,no0,nv0,nc0,ni0,co0,cv0,cc0,ci0,hget⟩:=HP.out.get hp0
   injection hbe with hbe
   injection hbe with hbe1 hbe2
   subst hbe1 hbe2
   obtain⟨d0,d1,d2,d3,d4,hlen,hin,hbd⟩:=hget
   have D00:=hide d0
   have D01:=hide d1
   have D02:=hide d2
   have D03:=hide d3
   have D04:=hide d4
   have HLen0:=hide hlen
   have HIn0:=hide hin
   have HBd0:=hide hbd
   clear d0 d1 d2 d3 d4 hlen hin hbd
   have D00:Hid (w.cell? ⟨b,off,none⟩=some (.int .i64 p0.step)):=hide (by have h:=D00.out;rw[Nat.zero_mul,Nat.add_zero] at h;exact h)
   have D01:Hid (w.cell? ⟨b,off+1,none⟩=some (.slice Ao0 no0 co0)):=hide (by have h:=D01.out;rw[Nat.zero_mul,Nat.add_zero] at h;exact h)
   have D02:Hid (w.cell? ⟨b,off+2,none⟩=some (.slice Av0 nv0 cv0)):=hide (by have h:=D02.out;rw[Nat.zero_mul,Nat.add_zero] at h;exact h)
   have D03:Hid (w.cell? ⟨b,off+3,none⟩=some (.slice Ac0 nc0 cc0)):=hide (by have h:=D03.out;rw[Nat.zero_mul,Nat.add_zero] at h;exact h)
   have D04:Hid (w.cell? ⟨b,off+4,none⟩=some (.slice Ai0 ni0 ci0)):=hide (by have h:=D04.out;rw[Nat.zero_mul,Nat.add_zero] at h;exact h)
   have HPl1:=hide hp1
   have HPl0:=hide hp0
   clear hp1 hp0
   have e10:wr.cell? ⟨b,off+i*5,none⟩=some (.int .i64 p1.step):=(hbr.out.cell (p:=⟨b,off+i*5,none⟩) hbl).trans D10.out
   have e11:wr.cell? ⟨b,off+i*5+1,none⟩=some (.slice Ao1 no1 co1):=(hbr.out.cell (p:=⟨b,off+i*5+1,none⟩) hbl).trans D11.out
   have e12:wr.cell? ⟨b,off+i*5+2,none⟩=some (.slice Av1 nv1 cv1):=(hbr.out.cell (p:=⟨b,off+i*5+2,none⟩) hbl).trans D12.out
   have e13:wr.cell? ⟨b,off+i*5+3,none⟩=some (.slice Ac1 nc1 cc1):=(hbr.out.cell (p:=⟨b,off+i*5+3,none⟩) hbl).trans D13.out
   have e14:wr.cell? ⟨b,off+i*5+4,none⟩=some (.slice Ai1 ni1 ci1):=(hbr.out.cell (p:=⟨b,off+i*5+4,none⟩) hbl).trans D14.out
   have hlb:b<wr.heap.size:=by omega
   obtain⟨fb,hfb⟩:∃x,(decide (no1≤60) && decide (nv1≤60) && decide (nc1≤60) && decide (ni1≤60))=x:=⟨_,rfl⟩
   have hcl:=sfew_any wr p1.step Ao1 Av1 Ac1 Ai1 no1 nv1 nc1 ni1 co1 cv1 cc1 ci1
   rw[hfb] at hcl
   have HCL:=hide hcl
   have HFB:=hide hfb
   clear hcl hfb
   go_wp2_with fail
   refine HCL.out.mono ?_
   rintro e z ⟨rfl,hz⟩
   have HZ:=hide (hbr.out.trans (hz.mono srw))
   have HMz:=hide (hM.out.below hz)
   have szz:=HZ.out.size
   clear hz HCL e10 e11 e12 e13 e14 hM hbr
   rcases fb with _ | _
   ·go_wp2_with fail
    refine (works_any _).mono ?_
    rintro e wk ⟨rfl,hb⟩
    have HF:=hide (HZ.out.trans (hb.mono szz))
    clear hb
    go_wp2
    go_ret
    exact⟨rfl,HF.out⟩
   have e10:z.cell? ⟨b,off+i*5,none⟩=some (.int .i64 p1.step):=(HZ.out.cell (p:=⟨b,off+i*5,none⟩) hbl).trans D10.out
   have e11:z.cell? ⟨b,off+i*5+1,none⟩=some (.slice Ao1 no1 co1):=(HZ.out.cell (p:=⟨b,off+i*5+1,none⟩) hbl).trans D11.out
   have e12:z.cell? ⟨b,off+i*5+2,none⟩=some (.slice Av1 nv1 cv1):=(HZ.out.cell (p:=⟨b,off+i*5+2,none⟩) hbl).trans D12.out
   have e13:z.cell? ⟨b,off+i*5+3,none⟩=some (.slice Ac1 nc1 cc1):=(HZ.out.cell (p:=⟨b,off+i*5+3,none⟩) hbl).trans D13.out
   have e14:z.cell? ⟨b,off+i*5+4,none⟩=some (.slice Ai1 ni1 ci1):=(HZ.out.cell (p:=⟨b,off+i*5+4,none⟩) hbl).trans D14.out
   have hlbz:b<z.heap.size:=by omega
   go_wp2_with fail
   refine (splain_any z p1.step Ao1 Av1 Ac1 Ai1 no1 nv1 nc1 ni1 co1 cv1 cc1 ci1).mono ?_
   rintro e y ⟨rfl,hy⟩
   have HY:=hide (HZ.out.trans (hy.mono szz))
   have HMy:=hide (HMz.out.below hy)
   have syy:=HY.out.size
   clear hy HMz HZ e10 e11 e12 e13 e14
   obtain⟨xs,ho,hm⟩:=HMy.out
   have HO:=hide ho
   have HM:=hide hm
   clear ho hm HMy
   go_wp2_with (at_builtin;refine wpList_app rfl (.tmp 26) (.tmp 32) 86 rfl w.heap.size 64 a1 (.agg #[.int .i64 0,.slice none 0 0,.slice none 0 0,.slice none 0 0,.slice none 0 0]) 5 104 Tryz.underlying86 a1i a1z a1s a1b rfl (by decide) (.slice Am i cm) i _ rfl (HO.out.alloc _) (y.heap.size+1) (some ⟨y.heap.size,0,none⟩) 1 1 [.int .i64 p1.step,.slice Ao1 no1 co1,.slice Av1 nv1 cv1,.slice Ac1 nc1 cc1,.slice Ai1 ni1 ci1] rfl rfl (Rd.new _ _ _ _) (by simp[Value.oneCell']) (by unfold maxLen;omega) (by omega) (by simp;omega) ?_)
   intro A' c' v own hg hat
   have HV:=hide (app_below (HY.out.alloc syy (.cells #[.int .i64 p1.step,.slice Ao1 no1 co1,.slice Av1 nv1 cv1,.slice Ac1 nc1 cc1,.slice Ai1 ni1 ci1] 64)) (HO.out.alloc _) hg (by simp;omega) (Nat.le_refl _))
   have HMv:Hid (MRow 64 w v ps A' (i+1) c'):=hide ⟨_,own,HM.out.snoc HO.out.1 HPl1.out rfl ⟨Ao1,Av1,Ac1,Ai1,no1,nv1,nc1,ni1,co1,cv1,cc1,ci1,rfl,HLen1.out,HIn1.out,HBd1.out⟩⟩
   have H60':Hid (∀(q:Nat) (p:SPart),q<i+1→ps[q]?=some p→p.own.length≤60):=hide (fun q p hq hp=>by
  rcases Nat.lt_or_ge q i with h | h
  ·exact h60.out q p h hp
  ·obtain rfl:q=i:=by omega
   rw[HPl1.out] at hp
   obtain rfl:=Option.some.inj hp
   have h1:=HFB.out
   simp only[Bool.and_eq_true,decide_eq_true_eq] at h1
   have h2:=HLen1.out.1
   omega)
   have svv:=HV.out.size
   clear own hg hat HO HM h60 HY HFB
   have HKv:Hid (Kept w v):=hide (Kept.of_below HV.out)
   obtain⟨g2,Ao2,Av2,Ac2,Ai2,no2,nv2,nc2,ni2,co2,cv2,cc2,ci2,rfl,hg2,t20,t21,t22,t23,t24,hl2,hi2,hb2⟩:=HMv.out.get HKv.out svv (show i<i+1 by omega) HPl1.out
   have HLen2:=hide hl2
   have HIn2:=hide hi2
   have HBd2:=hide hb2
   obtain⟨g3,Ao3,Av3,Ac3,Ai3,no3,nv3,nc3,ni3,co3,cv3,cc3,ci3,hge,-,t30,t31,t32,t33,t34,hl3,hi3,hb3⟩:=HMv.out.get HKv.out svv (show 0<i+1 by omega) HPl0.out
   injection hge with hge
   injection hge with hge _
   subst hge
   have HLen3:=hide hl3
   have HIn3:=hide hi3
   have HBd3:=hide hb3
   have t30:v.cell? ⟨g2,0,none⟩=some (.int .i64 p0.step):=by have h:=t30;rw[Nat.zero_mul] at h;exact h
   have t31:v.cell? ⟨g2,1,none⟩=some (.slice Ao3 no3 co3):=by have h:=t31;rw[Nat.zero_mul,Nat.zero_add] at h;exact h
   have t32:v.cell? ⟨g2,2,none⟩=some (.slice Av3 nv3 cv3):=by have h:=t32;rw[Nat.zero_mul,Nat.zero_add] at h;exact h
   have t33:v.cell? ⟨g2,3,none⟩=some (.slice Ac3 nc3 cc3):=by have h:=t33;rw[Nat.zero_mul,Nat.zero_add] at h;exact h
   have t34:v.cell? ⟨g2,4,none⟩=some (.slice Ai3 ni3 ci3):=by have h:=t34;rw[Nat.zero_mul,Nat.zero_add] at h;exact h
   clear hl2 hi2 hb2 hl3 hi3 hb3
   have e10:v.cell? ⟨b,off+i*5,none⟩=some (.int .i64 p1.step):=(HV.out.cell (p:=⟨b,off+i*5,none⟩) hbl).trans D10.out
   have e11:v.cell? ⟨b,off+i*5+1,none⟩=some (.slice Ao1 no1 co1):=(HV.out.cell (p:=⟨b,off+i*5+1,none⟩) hbl).trans D11.out
   have e12:v.cell? ⟨b,off+i*5+2,none⟩=some (.slice Av1 nv1 cv1):=(HV.out.cell (p:=⟨b,off+i*5+2,none⟩) hbl).trans D12.out
   have e13:v.cell? ⟨b,off+i*5+3,none⟩=some (.slice Ac1 nc1 cc1):=(HV.out.cell (p:=⟨b,off+i*5+3,none⟩) hbl).trans D13.out
   have e14:v.cell? ⟨b,off+i*5+4,none⟩=some (.slice Ai1 ni1 ci1):=(HV.out.cell (p:=⟨b,off+i*5+4,none⟩) hbl).trans D14.out
   have e00:v.cell? ⟨b,off,none⟩=some (.int .i64 p0.step):=(HV.out.cell (p:=⟨b,off,none⟩) hbl).trans D00.out
   have e01:v.cell? ⟨b,off+1,none⟩=some (.slice Ao0 no0 co0):=(HV.out.cell (p:=⟨b,off+1,none⟩) hbl).trans D01.out
   have e02:v.cell? ⟨b,off+2,none⟩=some (.slice Av0 nv0 cv0):=(HV.out.cell (p:=⟨b,off+2,none⟩) hbl).trans D02.out
   have e03:v.cell? ⟨b,off+3,none⟩=some (.slice Ac0 nc0 cc0):=(HV.out.cell (p:=⟨b,off+3,none⟩) hbl).trans D03.out
   have e04:v.cell? ⟨b,off+4,none⟩=some (.slice Ai0 ni0 ci0):=(HV.out.cell (p:=⟨b,off+4,none⟩) hbl).trans D04.out
   have hlbv:b<v.heap.size:=by omega
   have hL0:(0:Int)<(L:Int):=by omega
   have hLN:0<L:=by omega
   have hI2:(0:Int)<(i:Int)+1:=by omega
   have hI3:(i:Int)<(i:Int)+1:=by omega
   go_upto_region 10 with fail
   refine wp_region_held_drew (S:=Kept v) (by kernel_rfl) (Kept.drew v) (fun hS0=>?_)
   refine tka 0 34 ?_
   refine tka 1 35 ?_
   refine tka 2 36 ?_
   refine tka 3 37 ?_
   refine tka 4 38 ?_
   refine tka 5 39 ?_
   refine tka 6 40 ?_
   refine tka 8 42 ?_
   refine tka 9 43 ?_
   refine tka 10 44 ?_
   refine tka 11 45 ?_
   refine tka 12 46 ?_
   refine tka 13 47 ?_
   refine tka 14 48 ?_
   refine ck 7 41 fun K hK=>?_
   go_simp
   have hcl:=ssame_any v.drew p1 Ao1 Av1 Ac1 Ai1 no1 nv1 nc1 ni1 co1 cv1 cc1 ci1 HLen1.out ((HIn1.out.kept HKv.out svv).drew) p0 Ao0 Av0 Ac0 Ai0 no0 nv0 nc0 ni0 co0 cv0 cc0 ci0 HLen0.out ((HIn0.out.kept HKv.out svv).drew) HBd1.out.1 HBd1.out.2.1 HBd1.out.2.2.1 HBd1.out.2.2.2
   obtain⟨sv,hsv⟩:∃x,sameS p1 p0=x:=⟨_,rfl⟩
   rw[hsv] at hcl
   have HSV:=hide hsv
   refine hcl.mono ?_
   clear hcl hsv
   rintro e y1 ⟨rfl,hz⟩
   have hS1:Kept v y1:=hS0.below (Nat.le_refl _) hz
   have q1:v.heap.size≤y1.heap.size:=by have:=hz.size;simpa using this
   have Z1:=hide ((Below.refl v.heap.size v).drew.trans (hz.mono (Nat.le_refl _)))
   clear hz
   go_wp2_with fail
   refine hK.out _ _ hS1 (fun hSn=>?_)
   clear hK K
   try simp only[zqd,zqe,zqf]
   refine ck 15 49 fun K hK=>?_
   go_simp
   have hcl:=rssame_any y1 p1 Ao2 Av2 Ac2 Ai2 no2 nv2 nc2 ni2 co2 cv2 cc2 ci2 HLen2.out (HIn2.out.kept hS1 q1) p0 Ao3 Av3 Ac3 Ai3 no3 nv3 nc3 ni3 co3 cv3 cc3 ci3 HLen3.out (HIn3.out.kept hS1 q1) HBd2.out.1 HBd2.out.2.1 HBd2.out.2.2.1 HBd2.out.2.2.2
   skip
   rw[HSV.out] at hcl
   skip
   refine hcl.mono ?_
   clear hcl
   rintro e y2 ⟨rfl,hz⟩
   have hS2:Kept v y2:=hS1.below (q1) hz
   have q2:v.heap.size≤y2.heap.size:=Nat.le_trans q1 hz.size
   have Z2:=hide (Z1.out.trans (hz.mono q1))
   clear hz
   go_wp2_with fail
   refine hK.out _ _ hS2 (fun hSn=>?_)
   clear hK K
   try simp only[zqd,zqe,zqf]
   refine tka 16 50 ?_
   refine wpAnyH_done (by kernel_rfl) ?_ _
   clear hS0 hS1 hS2 hSn t20  t21  t22  t23  t24  t30  t31  t32  t33  t34 e00 e01 e02 e03 e04 e10 e11 e12 e13 e14
   have HB2:=hide (HV.out.trans (Z2.out.mono svv))
   have HM2:=hide (HMv.out.below Z2.out)
   have hss:(sv != sv)=false:=by simp
   go_wp2
   go_roundw
   case rel=>exact⟨i+1,_,_,by omega,by go_num,rfl,HM2,H60',HB2⟩
   case measure=>simp[intOf];omega
  obtain rfl:L=i:=by omega
  obtain⟨u0,rfl⟩:∃z:World,z=wr:=⟨_,rfl⟩
  have HRow:Hid (PRow u0 Am ps):=hide (by have h:=hM.out;rw[←HL.out] at h;exact h.row (Kept.of_below hbr.out) srw)
  have H6:Hid (∀p∈ps,p.own.length≤60):=hide (fun p hp=>by obtain⟨q,hq,rfl⟩:=List.getElem_of_mem hp;exact h60.out q _ (by rw[←HL.out];exact hq) (List.getElem?_eq_getElem hq))
  have HPu:Hid (PRow u0 A ps):=hide (HP.out.next hbr.out)
  have hL64:L≤64:=by omega
  have HB:=hide hbr.out
  clear hM h60 hbr hlt
  have HJ1:=hide (sjoin_any u0 A ps L c HL.out hL64 HPu.out H6.out)
  go_wp2_with fail
  refine HJ1.out.mono ?_
  clear HJ1
  rintro e w1 hj
  have HJA:=hide hj
  clear hj
  rcases HJA.out with ⟨hok,A1,A2,A3,c1,c2,c3,rfl,r1,r2,r3,hb1⟩ | ⟨hok,rfl,hb1⟩
  ·have HOk:=hide hok
   have HB1:=hide hb1
   have sw1:=hb1.size
   have R1:=hide r1
   have R2:=hide r2
   have R3:=hide r3
   clear hok hb1 HJA r1 r2 r3
   obtain⟨st,hst⟩:∃x,stepJ ps=x:=⟨_,rfl⟩
   obtain⟨n,hn⟩:∃x,nAll ps=x:=⟨_,rfl⟩
   rw[hst,hn]
   rw[hn] at R1 R2 R3
   have HSt:=hide hst
   have HN:=hide hn
   have hnB:Hid (n≤9223372036854775807):=hide (by have h:=HOk.out;obtain⟨p,hp⟩:∃p,ps[0]?=some p:=⟨_,List.getElem?_eq_getElem (by have:=h.1;omega)⟩;have h1:=(fit_iff.1 (h.2.2.2 0 p hp)).2.2.1;rw[HN.out] at h1;omega)
   clear hst hn
   go_upto_region 13 with fail
   obtain⟨w2,hw2⟩:∃z,w1.alloc (.cells #[.int .i64 st,.slice A1 n c1,.slice A2 n c2,.slice A3 n c3,.int .i64 0,.int .i64 0] 33)=z:=⟨_,rfl⟩
   have M1:=hide (show w2.heap[w1.heap.size]?=some (.cells #[.int .i64 st,.slice A1 n c1,.slice A2 n c2,.slice A3 n c3,.int .i64 0,.int .i64 0] 33) by rw[←hw2];exact heap_alloc_last _ _)
   have HB2:=hide (show Below w1.heap.size w1 w2 by rw[←hw2];exact (Below.refl _ _).alloc (Nat.le_refl _) _)
   rw[hw2]
   obtain⟨b1,hb1⟩:∃z,w1.heap.size=z:=⟨_,rfl⟩
   have hb1w:b1<w2.heap.size:=by rw[←hb1,←hw2];simp
   rw[hb1] at M1 ⊢
   have sw2:=HB2.out.size
   have HBb:=hide hb1
   clear hw2 hb1
   have HJ2:=hide (rjoin14_any w2 Am ps L cm HL.out hL64 ((HRow.out.next HB1.out).next HB2.out) H6.out)
   go_wp2_with fail
   refine HJ2.out.mono ?_
   clear HJ2
   rintro e w3 hj
   have HJA:=hide hj
   clear hj
   rcases HJA.out with ⟨-,B1,B2,B3,d1,d2,d3,rfl,r1,r2,r3,hb3⟩ | ⟨hno,-,-⟩
   rotate_left
   ·exact absurd HOk.out hno
   rw[HSt.out,HN.out]
   rw[HN.out] at r1 r2 r3
   have Q1:=hide r1
   have Q2:=hide r2
   have Q3:=hide r3
   clear r1 r2 r3
   have HB3:=hide hb3
   have sw3:=hb3.size
   clear hb3 HJA
   go_upto_region 14 with fail
   obtain⟨w4,hw4⟩:∃z,w3.alloc (.cells #[.int .i64 st,.slice B1 n d1,.slice B2 n d2,.slice B3 n d3,.int .i64 0,.int .i64 0] 33)=z:=⟨_,rfl⟩
   have M2:w4.heap[w3.heap.size]?=some (.cells #[.int .i64 st,.slice B1 n d1,.slice B2 n d2,.slice B3 n d3,.int .i64 0,.int .i64 0] 33):=by rw[←hw4];exact heap_alloc_last _ _
   have HB4:=hide (show Below w3.heap.size w3 w4 by rw[←hw4];exact (Below.refl _ _).alloc (Nat.le_refl _) _)
   rw[hw4]
   obtain⟨b2,hb2⟩:∃z,w3.heap.size=z:=⟨_,rfl⟩
   have hb2w:b2<w4.heap.size:=by rw[←hb2,←hw4];simp
   have sw4:=HB4.out.size
   have M1':w4.heap[b1]?=some (.cells #[.int .i64 st,.slice A1 n c1,.slice A2 n c2,.slice A3 n c3,.int .i64 0,.int .i64 0] 33):=(HB4.out.block b1 (by omega)).trans ((HB3.out.block b1 hb1w).trans M1.out)
   rw[hb2] at M2 ⊢
   have HBc:=hide hb2
   have hb1x:b1<w4.heap.size:=by omega
   clear hw4 hb2
   obtain⟨x0,x1,x2,x3,x4,x5⟩:=zr6 M1'
   obtain⟨y0,y1,y2,y3,y4,y5⟩:=zr6 M2
   clear M1' M2 M1
   have R4:Hid (Below w1.heap.size w1 w4):=hide ((HB2.out.trans (HB3.out.mono sw2)).trans (HB4.out.mono (by omega)))
   have HCL:=hide (rtsame_any w4 st 0 0 A1 A2 A3 B1 B2 B3 n n n c1 c2 c3 d1 d2 d3 ((List.range n).map (jV ps)) ((List.range n).map (jC ps)) ((List.range n).map (jM ps)) ((List.range n).map (jM ps)) (by simp) (by simp) (by simp) (by simp) hnB.out hnB.out hnB.out (eqL_self _) (R1.out.next R4.out) (R2.out.next R4.out) (R3.out.next R4.out) (Q1.out.next HB4.out) (Q2.out.next HB4.out) (Q3.out.next HB4.out))
   go_wp2_with fail
   refine HCL.out.mono ?_
   clear HCL
   rintro e w5 ⟨rfl,hz⟩
   have HB5:=hide hz
   have sw5:=hz.size
   clear hz
   go_wp2_with fail
   refine (works_any _).mono ?_
   rintro e w6 ⟨rfl,hz⟩
   have HF:Hid (Below w.heap.size w w6):=hide (by
  have a1:=HB.out.trans (HB1.out.mono srw)
  have a2:=a1.trans (HB2.out.mono (by omega))
  have a3:=a2.trans (HB3.out.mono (by omega))
  have a4:=a3.trans (HB4.out.mono (by omega))
  have a5:=a4.trans (HB5.out.mono (by omega))
  exact a5.trans (hz.mono (by omega)))
   clear hz x0 y0 x1 y1 x2 y2 x3 y3 x4 y4 x5 y5
   go_wp2
   go_ret
   exact⟨rfl,HF.out⟩
  have HOk:=hide hok
  have HB1:=hide hb1
  have sw1:=hb1.size
  clear hok hb1 HJA
  go_upto_region 13 with fail
  obtain⟨w2,hw2⟩:∃z,w1.alloc (.cells #[.int .i64 0,.slice none 0 0,.slice none 0 0,.slice none 0 0,.int .i64 0,.int .i64 0] 33)=z:=⟨_,rfl⟩
  have M1:=hide (show w2.heap[w1.heap.size]?=some (.cells #[.int .i64 0,.slice none 0 0,.slice none 0 0,.slice none 0 0,.int .i64 0,.int .i64 0] 33) by rw[←hw2];exact heap_alloc_last _ _)
  have HB2:=hide (show Below w1.heap.size w1 w2 by rw[←hw2];exact (Below.refl _ _).alloc (Nat.le_refl _) _)
  rw[hw2]
  obtain⟨b1,hb1⟩:∃z,w1.heap.size=z:=⟨_,rfl⟩
  have hb1w:b1<w2.heap.size:=by rw[←hb1,←hw2];simp
  rw[hb1] at M1 ⊢
  have sw2:=HB2.out.size
  have HBb:=hide hb1
  clear hw2 hb1
  have HJ2:=hide (rjoin14_any w2 Am ps L cm HL.out hL64 ((HRow.out.next HB1.out).next HB2.out) H6.out)
  go_wp2_with fail
  refine HJ2.out.mono ?_
  clear HJ2
  rintro e w3 hj
  have HJA:=hide hj
  clear hj
  rcases HJA.out with ⟨hno,-⟩ | ⟨-,rfl,hb3⟩
  ·exact absurd hno HOk.out
  have HB3:=hide hb3
  have sw3:=hb3.size
  clear hb3 HJA
  go_upto_region 14 with fail
  obtain⟨w4,hw4⟩:∃z,w3.alloc (.cells #[.int .i64 0,.slice none 0 0,.slice none 0 0,.slice none 0 0,.int .i64 0,.int .i64 0] 33)=z:=⟨_,rfl⟩
  have M2:w4.heap[w3.heap.size]?=some (.cells #[.int .i64 0,.slice none 0 0,.slice none 0 0,.slice none 0 0,.int .i64 0,.int .i64 0] 33):=by rw[←hw4];exact heap_alloc_last _ _
  have HB4:=hide (show Below w3.heap.size w3 w4 by rw[←hw4];exact (Below.refl _ _).alloc (Nat.le_refl _) _)
  rw[hw4]
  obtain⟨b2,hb2⟩:∃z,w3.heap.size=z:=⟨_,rfl⟩
  have hb2w:b2<w4.heap.size:=by rw[←hb2,←hw4];simp
  have sw4:=HB4.out.size
  have M1':w4.heap[b1]?=some (.cells #[.int .i64 0,.slice none 0 0,.slice none 0 0,.slice none 0 0,.int .i64 0,.int .i64 0] 33):=(HB4.out.block b1 (by omega)).trans ((HB3.out.block b1 hb1w).trans M1.out)
  rw[hb2] at M2 ⊢
  have HBc:=hide hb2
  have hb1x:b1<w4.heap.size:=by omega
  clear hw4 hb2
  obtain⟨x0,x1,x2,x3,x4,x5⟩:=zr6 M1'
  obtain⟨y0,y1,y2,y3,y4,y5⟩:=zr6 M2
  clear M1' M2 M1
  have HCL:=hide (rtsame_any w4 0 0 0 none none none none none none 0 0 0 0 0 0 0 0 0 [] [] [] [] rfl rfl rfl rfl (by omega) (by omega) (by omega) rfl Rd.nil_ Rd.nil_ Rd.nil_ Rd.nil_ Rd.nil_ Rd.nil_)
  go_wp2_with fail
  refine HCL.out.mono ?_
  clear HCL
  rintro e w5 ⟨rfl,hz⟩
  have HB5:=hide hz
  have sw5:=hz.size
  clear hz
  go_wp2_with fail
  refine (works_any _).mono ?_
  rintro e w6 ⟨rfl,hz⟩
  have HF:Hid (Below w.heap.size w w6):=hide (by
  have a1:=HB.out.trans (HB1.out.mono srw)
  have a2:=a1.trans (HB2.out.mono (by omega))
  have a3:=a2.trans (HB3.out.mono (by omega))
  have a4:=a3.trans (HB4.out.mono (by omega))
  have a5:=a4.trans (HB5.out.mono (by omega))
  exact a5.trans (hz.mono (by omega)))
  clear hz x0 y0 x1 y1 x2 y2 x3 y3 x4 y4 x5 y5
  go_wp2
  go_ret
  exact⟨rfl,HF.out⟩
theorem statesJoin_walk (w:World) (A:Option Addr) (ps:List SPart) (c:Nat) (hP:PRow w A ps) (hlc:ps.length≤c) (hc:c≤9223372036854775807) :
  Calls Tryz.prog 14 #[.slice A ps.length c] w fun e W'=>e = .returned (.bool true)∧Below w.heap.size w W':=
 statesJoin_go w A ps ps.length c rfl hP hc
end Go.Proofs.YtpojjmbalgmcoaaGreat

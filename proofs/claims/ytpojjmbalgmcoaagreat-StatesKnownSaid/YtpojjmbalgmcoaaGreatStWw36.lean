/- Lemmas: Sss, Atb. -/
import Derived.Deep.DeepCutAuto
import Derived.Lib.Hide
import Derived.WalkSpells
import Derived.WalkMore
import Derived.IntWalk
import Derived.Test.YtpojjmbalgmcoaaGreatStWw35
set_option linter.unusedVariables false
set_option linter.unusedSimpArgs false
set_option maxRecDepth 100000
set_option maxHeartbeats 16000000
namespace Go.Proofs.YtpojjmbalgmcoaaGreat
open Go.RowKit
theorem sym_any (κ:Ms→Int) (v0:World) (B g n cap:Nat) (hn:n≤1000000):∀(N:Nat) (w:World) (d:List Ms) (a m b:Nat),b-a≤N→SR v0 B g n cap d w→a<m→m<b→b≤n →
  Calls Tryz.prog 115 #[.slice (some ⟨g,0,none⟩) n cap,.int .i64 (a:Int),.int .i64 (m:Int),.int .i64 (b:Int),.func (.func 106) #[] #[]] w (fun e w'=>e = .returned (.tuple #[])∧∃d',SR v0 B g n cap d' w'∧SymR ltF κ a m b d d'):=by
 intro N
 induction N with
 | zero=>intro w d a m b h1 _ h2 h3;omega
 | succ N ih=>
  intro w d a m b hN hS ham hmb hbn
  by_cases hA:m=a+1
  ·exact symA_any κ v0 B g n cap hn w d a m b hS ham hmb hbn hA
  by_cases hB:b=m+1
  ·exact symB_any κ v0 B g n cap hn w d a m b hS ham hmb hbn hA hB
  have IH:=hide ih
  have HS:=hide hS
  have HL:=hide hS.1
  clear hS ih
  obtain⟨ma,hma⟩:∃z,m-a=z:=⟨_,rfl⟩
  obtain⟨bm,hbm⟩:∃z,b-m=z:=⟨_,rfl⟩
  obtain⟨ab,hab⟩:∃z,a+b=z:=⟨_,rfl⟩
  obtain⟨mid,hmid⟩:∃z,ab / 2=z:=⟨_,rfl⟩
  obtain⟨nn,hnn⟩:∃z,mid+m=z:=⟨_,rfl⟩
  obtain⟨pp,hpp⟩:∃z,nn-1=z:=⟨_,rfl⟩
  have q1:(m:Int)-(a:Int)=(ma:Int):=by omega
  have q2:(b:Int)-(m:Int)=(bm:Int):=by omega
  have q5:((ma:Int) == 1)=false:=by simp;omega
  have q6:((bm:Int) == 1)=false:=by simp;omega
  have q7:(a:Int)+(b:Int)=(ab:Int):=by omega
  have q8:(ab:Int) / 2=(mid:Int):=by omega
  have q9:(mid:Int)+(m:Int)=(nn:Int):=by omega
  have qa:(nn:Int)-1=(pp:Int):=by omega
  have bab:ab≤9223372036854775807:=by omega
  have bmid:mid≤9223372036854775807:=by omega
  have bnn:nn≤9223372036854775807:=by omega
  have bpp:pp≤9223372036854775807:=by omega
  have bma:ma≤9223372036854775807:=by omega
  have bbm:bm≤9223372036854775807:=by omega
  obtain⟨s9,hs9⟩:∃z,nn-b=z:=⟨_,rfl⟩
  have HT1:Hid (mid<m→((nn:Int)-(b:Int)=(s9:Int)∧s9+b=mid+m)):=hide (fun h=>by omega)
  have bs9:s9≤9223372036854775807:=by omega
  clear hs9
  have HM:=hide (show mid=(a+b) / 2∧mid+m=nn∧pp=mid+m-1∧a<mid∧mid<b by omega)
  clear hma hbm hab hmid hnn hpp
  have r1:IntKind.i64.wrap (ma:Int)=(ma:Int):=i64_nat _ bma
  have r2:IntKind.i64.wrap (bm:Int)=(bm:Int):=i64_nat _ bbm
  have r3:IntKind.i64.wrap (ab:Int)=(ab:Int):=i64_nat _ bab
  have r4:IntKind.u64.wrap (ab:Int)=(ab:Int):=u64_nat _ (Nat.le_trans bab (by decide))
  have r5:wrap64 (mid:Int)=(mid:Int):=w64_nat _ bmid
  have r6:IntKind.i64.wrap (mid:Int)=(mid:Int):=i64_nat _ bmid
  have r7:IntKind.i64.wrap (nn:Int)=(nn:Int):=i64_nat _ bnn
  go_enter Tryz.func115,Tryz.ntmps115
  go_upto_if 140 with fail
  go_cut [20,21] (fun v20 v21 wc=>∃(s0 r0:Nat),Hid ((m≤mid∧s0=a∧r0=m)∨(mid<m∧s0+b=mid+m∧r0=mid))∧v20 = .int .i64 (s0:Int)∧v21 = .int .i64 (r0:Int)∧wc=w)
  case first=>
   clear q1 q2 q5 q6 q7 q8 q9 r1 r2 r3 r4 r5 r6 r7 qa
   by_cases hmm:mid<m
   ·have hmm':(mid:Int)<(m:Int):=Int.ofNat_lt.2 hmm
    have HD:Hid ((m≤mid∧s9=a∧mid=m)∨(mid<m∧s9+b=mid+m∧mid=mid)):=hide (.inr ⟨hmm,(HT1.out hmm).2,rfl⟩)
    have t1:(nn:Int)-(b:Int)=(s9:Int):=(HT1.out hmm).1
    have t2:IntKind.i64.wrap (s9:Int)=(s9:Int):=i64_nat _ bs9
    go_wp2
    go_meet
    case rel=>exact⟨s9,mid,hide (.inr ⟨by omega,(HT1.out (by omega)).2,rfl⟩),rfl,rfl,rfl⟩
   have hmm':¬(mid:Int)<(m:Int):=fun h=>hmm (Int.ofNat_lt.1 h)
   have HD:Hid ((m≤mid∧a=a∧m=m)∨(mid<m∧a+b=mid+m∧m=mid)):=hide (.inl ⟨Nat.le_of_not_lt hmm,rfl,rfl⟩)
   go_wp2
   go_meet
   case rel=>exact⟨a,m,hide (.inl ⟨by omega,rfl,rfl⟩),rfl,rfl,rfl⟩
  case rest=>
   obtain⟨s0,r0,HD,rfl,rfl,e⟩:=hcut
   subst e
   clear q1 q2 q5 q6 q7 q8 q9 r1 r2 r3 r4 r5 r6 r7
   have HB0:=hide (show a≤s0∧r0≤m∧m+r0≤pp+1∧pp<b+s0∧s0≤r0 by have:=HD.out;have:=HM.out;omega)
   have r8:IntKind.i64.wrap (pp:Int)=(pp:Int):=i64_nat _ bpp
   go_wp2
   go_loopw [20,21] (fun v20 v21 wr=>∃(s r:Nat),(s0≤s∧s≤r∧r≤r0)∧v20 = .int .i64 (s:Int)∧v21 = .int .i64 (r:Int)∧Hid (SR v0 B g n cap d wr)∧Hid (Cut2 ltF κ a m b s0 r0 pp s r d)) (fun v20 v21 _=>(intOf v21).toNat-(intOf v20).toNat)
   case atStart=>exact⟨s0,r0,⟨Nat.le_refl _,HB0.out.2.2.2.2,Nat.le_refl _⟩,rfl,rfl,HS,hide (Cut2.start _ _ _ _ _ _ _)⟩
   case round=>
    clear qa r8
    obtain⟨s,r,hij,rfl,rfl,HS1,HO⟩:=hrel
    by_cases hlt:s<r
    ·have hI:(s:Int)<(r:Int):=by omega
     obtain⟨u,hu⟩:∃z,s+r=z:=⟨_,rfl⟩
     obtain⟨c,hc⟩:∃z,u / 2=z:=⟨_,rfl⟩
     obtain⟨pc,hpc⟩:∃z,pp-c=z:=⟨_,rfl⟩
     have HBB:=HB0.out
     have bu:u≤9223372036854775807:=by omega
     have bc:c≤9223372036854775807:=by omega
     have hb1:s≤c∧c<r:=by omega
     have hcn:c<n:=by omega
     have hpn:pc<n:=by omega
     have lh:(c:Int)<(n:Int):=by omega
     have lm:(pc:Int)<(n:Int):=by omega
     have f7:(pp:Int)-(c:Int)=(pc:Int):=by omega
     obtain⟨x,hx⟩:=get_some (d:=d) (i:=c) (by have:=HL.out;omega)
     obtain⟨y,hy⟩:=get_some (d:=d) (i:=pc) (by have:=HL.out;omega)
     obtain⟨cx0,cx1⟩:=HS1.out.get hx
     have cxf0:=HS1.out.frozen (c*2)
     have cxf1:=HS1.out.frozen (c*2+1)
     obtain⟨cy0,cy1⟩:=HS1.out.get hy
     have cyf0:=HS1.out.frozen (pc*2)
     have cyf1:=HS1.out.frozen (pc*2+1)
     have lg:=HS1.out.glt
     obtain⟨z,hz⟩:∃z,cmpI y x=z:=⟨_,rfl⟩
     have HZ:=hide hz
     clear hz
     have HX:=hide hx
     have HY:Hid (d[pp-c]?=some y):=hide (by rw[hpc];exact hy)
     have k1:s0≤c:=by omega
     have k2:c<r0:=by omega
     have k3:s0≤c+1∧c+1≤r∧r≤r0:=by omega
     have k4:s0≤s∧s≤c∧c≤r0:=by omega
     have w1:IntKind.i64.wrap ((c:Int)+1)=(c:Int)+1:=i64_nat (c+1) (by omega)
     have KK:=hide (And.intro k1 (And.intro k2 (And.intro k3 k4)))
     have HB1:=hide (And.intro hij hb1)
     have f1:(s:Int)+(r:Int)=(u:Int):=by omega
     have f2:(u:Int) / 2=(c:Int):=by omega
     have f3:IntKind.i64.wrap (u:Int)=(u:Int):=i64_nat _ bu
     have f4:IntKind.u64.wrap (u:Int)=(u:Int):=u64_nat _ (Nat.le_trans bu (by decide))
     have f5:wrap64 (c:Int)=(c:Int):=w64_nat _ bc
     have f6:IntKind.i64.wrap (c:Int)=(c:Int):=i64_nat _ bc
     have f8:IntKind.i64.wrap (pc:Int)=(pc:Int):=i64_nat _ (Nat.le_trans (Nat.le_of_lt hpn) (Nat.le_trans hn (by decide)))
     clear hx hy hu hc hb1 hij hpc HBB k1 k2 k3 k4
     go_upto_region 35 with fail
     refine wp_region_held_drew (S:=Kept wr) (by kernel_rfl) (Kept.drew wr) (fun hS0=>?_)
     refine tka 0 158 ?_
     refine tka 1 159 ?_
     refine tka 2 160 ?_
     refine tka 3 161 ?_
     refine tka 4 162 ?_
     refine tka 5 163 ?_
     refine tka 6 164 ?_
     refine tka 7 165 ?_
     refine tka 8 166 ?_
     refine tka 9 167 ?_
     refine tka 10 168 ?_
     refine ck 11 169 fun K hK=>?_
     go_simp
     refine (clo_any _ y x).mono ?_
     rintro e z1 ⟨rfl,hz⟩
     rw[HZ.out]
     have hS1:Kept wr z1:=hS0.below (by simp) hz
     have HSz:=hide (HS1.out.drew.below hz)
     clear hz
     go_wp2_with fail
     refine hK.out _ _ hS1 (fun hSn=>?_)
     clear hK K
     try simp only[zqd,zqe,zqf]
     refine tka 12 170 ?_
     refine tka 13 171 ?_
     refine wpAnyH_done (by kernel_rfl) ?_ _
     clear hS0 hSn hS1 cx0 cxf0 cx1 cxf1 cy0 cyf0 cy1 cyf1
     by_cases hz0:z<0
     ·have hz2:¬0≤z:=Int.not_le.2 hz0
      have hd:(!decide (z<0))=false:=by simp[hz0]
      rw[hd]
      clear hd
      have HLT:Hid (ltF y x=true):=hide (by unfold ltF;rw[HZ.out];simpa using hz0)
      have HO2:Hid (Cut2 ltF κ a m b s0 r0 pp s c d):=hide (by have hb:=HB0.out;exact HO.out.down hb.1 hb.2.1 hb.2.2.1 hb.2.2.2.1 KK.out.1 KK.out.2.1 HX.out HY.out HLT.out)
      go_wp2
      clear f1 f2 f3 f4 f5 f6 f7 f8 w1
      go_roundw
      case rel=>first | exact⟨s,c,KK.out.2.2.2,rfl,by first | rfl | go_num,HSz,HO2⟩ | ((repeat apply Exists.intro);exact⟨⟨s,c,KK.out.2.2.2,rfl,by first | rfl | go_num,HSz,HO2⟩,rfl⟩)
      case measure=>have:=HB1.out;simp[intOf];omega
     have hd:(!decide (z<0))=true:=by rw[decide_eq_false hz0];rfl
     rw[hd]
     clear hd
     have HLT:Hid (ltF y x=false):=hide (by unfold ltF;rw[HZ.out];simpa using hz0)
     have HO2:Hid (Cut2 ltF κ a m b s0 r0 pp (c+1) r d):=hide (by have hb:=HB0.out;exact HO.out.up hb.1 hb.2.1 hb.2.2.1 hb.2.2.2.1 KK.out.1 KK.out.2.1 HX.out HY.out HLT.out)
     have hz1:0≤z:=Int.not_lt.1 hz0
     go_wp2
     clear f1 f2 f3 f4 f5 f6 f7 f8 w1
     go_roundw
     case rel=>first | exact⟨c+1,r,KK.out.2.2.1,by first | rfl | go_num,rfl,HSz,HO2⟩ | ((repeat apply Exists.intro);exact⟨⟨c+1,r,KK.out.2.2.1,by first | rfl | go_num,rfl,HSz,HO2⟩,rfl⟩)
     case measure=>have:=HB1.out;simp[intOf];omega
    obtain rfl:s=r:=by omega
    obtain⟨e,he⟩:∃z,nn-s=z:=⟨_,rfl⟩
    have HE:=hide (show e+s=mid+m∧s≤m∧m≤e∧e≤b∧a≤s∧s≤mid∧mid≤e by have:=HM.out;have:=HB0.out;have:=HD.out;omega)
    have t1:(nn:Int)-(s:Int)=(e:Int):=by have:=HE.out;have:=HM.out;omega
    have HIJ:=hide hij
    have t2:IntKind.i64.wrap (e:Int)=(e:Int):=i64_nat _ (by have:=HE.out;omega)
    clear he hij
    by_cases hc1:s<m
    ·have hc1':(s:Int)<(m:Int):=Int.ofNat_lt.2 hc1
     by_cases hc2:m<e
     ·have hc2':(m:Int)<(e:Int):=Int.ofNat_lt.2 hc2
      have heb:=HE.out.2.2.2.1
      go_wp2_with fail
      refine (rot_any v0 _ B g n cap d s m e HS1.out hc1 hc2 (Nat.le_trans heb hbn) hn).mono ?_
      rintro _ w2 ⟨rfl,hs2⟩
      have HSe:=hide hs2
      clear hs2 HS1 t1 t2 heb
      by_cases hl1:a<s
      ·have hl1':(a:Int)<(s:Int):=Int.ofNat_lt.2 hl1
       by_cases hl2:s<mid
       ·have hl2':(s:Int)<(mid:Int):=Int.ofNat_lt.2 hl2
        go_wp2_with fail
        refine (IH.out w2 (rotL s m e d) a s mid (by have:=HM.out;omega) HSe.out hl1 hl2 (by have:=HM.out;omega)).mono ?_
        rintro _ w3 ⟨rfl,f,hs3,hf3⟩
        have HSf:=hide hs3
        have HF:=hide hf3
        clear hs3 hf3
        by_cases he1:mid<e
        ·have he1':(mid:Int)<(e:Int):=Int.ofNat_lt.2 he1
         by_cases he2:e<b
         ·have he2':(e:Int)<(b:Int):=Int.ofNat_lt.2 he2
          go_wp2_with fail
          refine (IH.out w3 f mid e b (by have:=HM.out;omega) HSf.out he1 he2 hbn).mono ?_
          rintro _ w4 ⟨rfl,f2,hs4,hg4⟩
          have HSg:=hide hs4
          have HG:=hide hg4
          clear hs4 hg4
          have HFin:=hide (show ∃d',SR v0 B g n cap d' w4∧SymR ltF κ a m b d d' from ⟨f2,HSg.out,sym_join (mid:=mid) (s0:=s0) (r0:=r0) (s:=s) (e:=e) (f:=f) ham hmb (by rw[HL.out];exact hbn) HM.out.1 HD.out HIJ.out.1 HIJ.out.2.2 HE.out.1 (by rw[←HM.out.2.2.1];exact HO.out) HF.out HG.out⟩)
          go_wp2
          go_end0
          exact⟨rfl,HFin.out⟩
         have he2':¬(e:Int)<(b:Int):=fun h=>he2 (Int.ofNat_lt.1 h)
         have HG:Hid (SymR ltF κ mid e b f f):=hide (SymR.none_ HE.out.2.2.2.2.2.2 HE.out.2.2.2.1 (fun h=>he2 h.2))
         have HFin:=hide (show ∃d',SR v0 B g n cap d' w3∧SymR ltF κ a m b d d' from ⟨f,HSf.out,sym_join (mid:=mid) (s0:=s0) (r0:=r0) (s:=s) (e:=e) (f:=f) ham hmb (by rw[HL.out];exact hbn) HM.out.1 HD.out HIJ.out.1 HIJ.out.2.2 HE.out.1 (by rw[←HM.out.2.2.1];exact HO.out) HF.out HG.out⟩)
         go_wp2
         go_end0
         exact⟨rfl,HFin.out⟩
        have he1':¬(mid:Int)<(e:Int):=fun h=>he1 (Int.ofNat_lt.1 h)
        have HG:Hid (SymR ltF κ mid e b f f):=hide (SymR.none_ HE.out.2.2.2.2.2.2 HE.out.2.2.2.1 (fun h=>he1 h.1))
        have HFin:=hide (show ∃d',SR v0 B g n cap d' w3∧SymR ltF κ a m b d d' from ⟨f,HSf.out,sym_join (mid:=mid) (s0:=s0) (r0:=r0) (s:=s) (e:=e) (f:=f) ham hmb (by rw[HL.out];exact hbn) HM.out.1 HD.out HIJ.out.1 HIJ.out.2.2 HE.out.1 (by rw[←HM.out.2.2.1];exact HO.out) HF.out HG.out⟩)
        go_wp2
        go_end0
        exact⟨rfl,HFin.out⟩
       have hl2':¬(s:Int)<(mid:Int):=fun h=>hl2 (Int.ofNat_lt.1 h)
       obtain⟨f,hf⟩:∃f,rotL s m e d=f:=⟨_,rfl⟩
       have HF:Hid (SymR ltF κ a s mid (rotL s m e d) f):=hide (by rw[←hf];exact SymR.none_ HE.out.2.2.2.2.1 HE.out.2.2.2.2.2.1 (fun h=>hl2 h.2))
       have HSf:Hid (SR v0 B g n cap f w2):=hide (by rw[←hf];exact HSe.out)
       clear hf
       by_cases he1:mid<e
       ·have he1':(mid:Int)<(e:Int):=Int.ofNat_lt.2 he1
        by_cases he2:e<b
        ·have he2':(e:Int)<(b:Int):=Int.ofNat_lt.2 he2
         go_wp2_with fail
         refine (IH.out w2 f mid e b (by have:=HM.out;omega) HSf.out he1 he2 hbn).mono ?_
         rintro _ w4 ⟨rfl,f2,hs4,hg4⟩
         have HSg:=hide hs4
         have HG:=hide hg4
         clear hs4 hg4
         have HFin:=hide (show ∃d',SR v0 B g n cap d' w4∧SymR ltF κ a m b d d' from ⟨f2,HSg.out,sym_join (mid:=mid) (s0:=s0) (r0:=r0) (s:=s) (e:=e) (f:=f) ham hmb (by rw[HL.out];exact hbn) HM.out.1 HD.out HIJ.out.1 HIJ.out.2.2 HE.out.1 (by rw[←HM.out.2.2.1];exact HO.out) HF.out HG.out⟩)
         go_wp2
         go_end0
         exact⟨rfl,HFin.out⟩
        have he2':¬(e:Int)<(b:Int):=fun h=>he2 (Int.ofNat_lt.1 h)
        have HG:Hid (SymR ltF κ mid e b f f):=hide (SymR.none_ HE.out.2.2.2.2.2.2 HE.out.2.2.2.1 (fun h=>he2 h.2))
        have HFin:=hide (show ∃d',SR v0 B g n cap d' w2∧SymR ltF κ a m b d d' from ⟨f,HSf.out,sym_join (mid:=mid) (s0:=s0) (r0:=r0) (s:=s) (e:=e) (f:=f) ham hmb (by rw[HL.out];exact hbn) HM.out.1 HD.out HIJ.out.1 HIJ.out.2.2 HE.out.1 (by rw[←HM.out.2.2.1];exact HO.out) HF.out HG.out⟩)
        go_wp2
        go_end0
        exact⟨rfl,HFin.out⟩
       have he1':¬(mid:Int)<(e:Int):=fun h=>he1 (Int.ofNat_lt.1 h)
       have HG:Hid (SymR ltF κ mid e b f f):=hide (SymR.none_ HE.out.2.2.2.2.2.2 HE.out.2.2.2.1 (fun h=>he1 h.1))
       have HFin:=hide (show ∃d',SR v0 B g n cap d' w2∧SymR ltF κ a m b d d' from ⟨f,HSf.out,sym_join (mid:=mid) (s0:=s0) (r0:=r0) (s:=s) (e:=e) (f:=f) ham hmb (by rw[HL.out];exact hbn) HM.out.1 HD.out HIJ.out.1 HIJ.out.2.2 HE.out.1 (by rw[←HM.out.2.2.1];exact HO.out) HF.out HG.out⟩)
       go_wp2
       go_end0
       exact⟨rfl,HFin.out⟩
      have hl1':¬(a:Int)<(s:Int):=fun h=>hl1 (Int.ofNat_lt.1 h)
      obtain⟨f,hf⟩:∃f,rotL s m e d=f:=⟨_,rfl⟩
      have HF:Hid (SymR ltF κ a s mid (rotL s m e d) f):=hide (by rw[←hf];exact SymR.none_ HE.out.2.2.2.2.1 HE.out.2.2.2.2.2.1 (fun h=>hl1 h.1))
      have HSf:Hid (SR v0 B g n cap f w2):=hide (by rw[←hf];exact HSe.out)
      clear hf
      by_cases he1:mid<e
      ·have he1':(mid:Int)<(e:Int):=Int.ofNat_lt.2 he1
       by_cases he2:e<b
       ·have he2':(e:Int)<(b:Int):=Int.ofNat_lt.2 he2
        go_wp2_with fail
        refine (IH.out w2 f mid e b (by have:=HM.out;omega) HSf.out he1 he2 hbn).mono ?_
        rintro _ w4 ⟨rfl,f2,hs4,hg4⟩
        have HSg:=hide hs4
        have HG:=hide hg4
        clear hs4 hg4
        have HFin:=hide (show ∃d',SR v0 B g n cap d' w4∧SymR ltF κ a m b d d' from ⟨f2,HSg.out,sym_join (mid:=mid) (s0:=s0) (r0:=r0) (s:=s) (e:=e) (f:=f) ham hmb (by rw[HL.out];exact hbn) HM.out.1 HD.out HIJ.out.1 HIJ.out.2.2 HE.out.1 (by rw[←HM.out.2.2.1];exact HO.out) HF.out HG.out⟩)
        go_wp2
        go_end0
        exact⟨rfl,HFin.out⟩
       have he2':¬(e:Int)<(b:Int):=fun h=>he2 (Int.ofNat_lt.1 h)
       have HG:Hid (SymR ltF κ mid e b f f):=hide (SymR.none_ HE.out.2.2.2.2.2.2 HE.out.2.2.2.1 (fun h=>he2 h.2))
       have HFin:=hide (show ∃d',SR v0 B g n cap d' w2∧SymR ltF κ a m b d d' from ⟨f,HSf.out,sym_join (mid:=mid) (s0:=s0) (r0:=r0) (s:=s) (e:=e) (f:=f) ham hmb (by rw[HL.out];exact hbn) HM.out.1 HD.out HIJ.out.1 HIJ.out.2.2 HE.out.1 (by rw[←HM.out.2.2.1];exact HO.out) HF.out HG.out⟩)
       go_wp2
       go_end0
       exact⟨rfl,HFin.out⟩
      have he1':¬(mid:Int)<(e:Int):=fun h=>he1 (Int.ofNat_lt.1 h)
      have HG:Hid (SymR ltF κ mid e b f f):=hide (SymR.none_ HE.out.2.2.2.2.2.2 HE.out.2.2.2.1 (fun h=>he1 h.1))
      have HFin:=hide (show ∃d',SR v0 B g n cap d' w2∧SymR ltF κ a m b d d' from ⟨f,HSf.out,sym_join (mid:=mid) (s0:=s0) (r0:=r0) (s:=s) (e:=e) (f:=f) ham hmb (by rw[HL.out];exact hbn) HM.out.1 HD.out HIJ.out.1 HIJ.out.2.2 HE.out.1 (by rw[←HM.out.2.2.1];exact HO.out) HF.out HG.out⟩)
      go_wp2
      go_end0
      exact⟨rfl,HFin.out⟩
     have hc2':¬(m:Int)<(e:Int):=fun h=>hc2 (Int.ofNat_lt.1 h)
     have HSe:Hid (SR v0 B g n cap (rotL s m e d) wr):=hide (by rw[rotL_nil (.inr (by have:=HE.out;omega)) (by have:=HE.out;omega) (by have:=HE.out;have:=HL.out;omega)];exact HS1.out)
     by_cases hl1:a<s
     ·have hl1':(a:Int)<(s:Int):=Int.ofNat_lt.2 hl1
      by_cases hl2:s<mid
      ·have hl2':(s:Int)<(mid:Int):=Int.ofNat_lt.2 hl2
       go_wp2_with fail
       refine (IH.out wr (rotL s m e d) a s mid (by have:=HM.out;omega) HSe.out hl1 hl2 (by have:=HM.out;omega)).mono ?_
       rintro _ w3 ⟨rfl,f,hs3,hf3⟩
       have HSf:=hide hs3
       have HF:=hide hf3
       clear hs3 hf3
       by_cases he1:mid<e
       ·have he1':(mid:Int)<(e:Int):=Int.ofNat_lt.2 he1
        by_cases he2:e<b
        ·have he2':(e:Int)<(b:Int):=Int.ofNat_lt.2 he2
         go_wp2_with fail
         refine (IH.out w3 f mid e b (by have:=HM.out;omega) HSf.out he1 he2 hbn).mono ?_
         rintro _ w4 ⟨rfl,f2,hs4,hg4⟩
         have HSg:=hide hs4
         have HG:=hide hg4
         clear hs4 hg4
         have HFin:=hide (show ∃d',SR v0 B g n cap d' w4∧SymR ltF κ a m b d d' from ⟨f2,HSg.out,sym_join (mid:=mid) (s0:=s0) (r0:=r0) (s:=s) (e:=e) (f:=f) ham hmb (by rw[HL.out];exact hbn) HM.out.1 HD.out HIJ.out.1 HIJ.out.2.2 HE.out.1 (by rw[←HM.out.2.2.1];exact HO.out) HF.out HG.out⟩)
         go_wp2
         go_end0
         exact⟨rfl,HFin.out⟩
        have he2':¬(e:Int)<(b:Int):=fun h=>he2 (Int.ofNat_lt.1 h)
        have HG:Hid (SymR ltF κ mid e b f f):=hide (SymR.none_ HE.out.2.2.2.2.2.2 HE.out.2.2.2.1 (fun h=>he2 h.2))
        have HFin:=hide (show ∃d',SR v0 B g n cap d' w3∧SymR ltF κ a m b d d' from ⟨f,HSf.out,sym_join (mid:=mid) (s0:=s0) (r0:=r0) (s:=s) (e:=e) (f:=f) ham hmb (by rw[HL.out];exact hbn) HM.out.1 HD.out HIJ.out.1 HIJ.out.2.2 HE.out.1 (by rw[←HM.out.2.2.1];exact HO.out) HF.out HG.out⟩)
        go_wp2
        go_end0
        exact⟨rfl,HFin.out⟩
       have he1':¬(mid:Int)<(e:Int):=fun h=>he1 (Int.ofNat_lt.1 h)
       have HG:Hid (SymR ltF κ mid e b f f):=hide (SymR.none_ HE.out.2.2.2.2.2.2 HE.out.2.2.2.1 (fun h=>he1 h.1))
       have HFin:=hide (show ∃d',SR v0 B g n cap d' w3∧SymR ltF κ a m b d d' from ⟨f,HSf.out,sym_join (mid:=mid) (s0:=s0) (r0:=r0) (s:=s) (e:=e) (f:=f) ham hmb (by rw[HL.out];exact hbn) HM.out.1 HD.out HIJ.out.1 HIJ.out.2.2 HE.out.1 (by rw[←HM.out.2.2.1];exact HO.out) HF.out HG.out⟩)
       go_wp2
       go_end0
       exact⟨rfl,HFin.out⟩
      have hl2':¬(s:Int)<(mid:Int):=fun h=>hl2 (Int.ofNat_lt.1 h)
      obtain⟨f,hf⟩:∃f,rotL s m e d=f:=⟨_,rfl⟩
      have HF:Hid (SymR ltF κ a s mid (rotL s m e d) f):=hide (by rw[←hf];exact SymR.none_ HE.out.2.2.2.2.1 HE.out.2.2.2.2.2.1 (fun h=>hl2 h.2))
      have HSf:Hid (SR v0 B g n cap f wr):=hide (by rw[←hf];exact HSe.out)
      clear hf
      by_cases he1:mid<e
      ·have he1':(mid:Int)<(e:Int):=Int.ofNat_lt.2 he1
       by_cases he2:e<b
       ·have he2':(e:Int)<(b:Int):=Int.ofNat_lt.2 he2
        go_wp2_with fail
        refine (IH.out wr f mid e b (by have:=HM.out;omega) HSf.out he1 he2 hbn).mono ?_
        rintro _ w4 ⟨rfl,f2,hs4,hg4⟩
        have HSg:=hide hs4
        have HG:=hide hg4
        clear hs4 hg4
        have HFin:=hide (show ∃d',SR v0 B g n cap d' w4∧SymR ltF κ a m b d d' from ⟨f2,HSg.out,sym_join (mid:=mid) (s0:=s0) (r0:=r0) (s:=s) (e:=e) (f:=f) ham hmb (by rw[HL.out];exact hbn) HM.out.1 HD.out HIJ.out.1 HIJ.out.2.2 HE.out.1 (by rw[←HM.out.2.2.1];exact HO.out) HF.out HG.out⟩)
        go_wp2
        go_end0
        exact⟨rfl,HFin.out⟩
       have he2':¬(e:Int)<(b:Int):=fun h=>he2 (Int.ofNat_lt.1 h)
       have HG:Hid (SymR ltF κ mid e b f f):=hide (SymR.none_ HE.out.2.2.2.2.2.2 HE.out.2.2.2.1 (fun h=>he2 h.2))
       have HFin:=hide (show ∃d',SR v0 B g n cap d' wr∧SymR ltF κ a m b d d' from ⟨f,HSf.out,sym_join (mid:=mid) (s0:=s0) (r0:=r0) (s:=s) (e:=e) (f:=f) ham hmb (by rw[HL.out];exact hbn) HM.out.1 HD.out HIJ.out.1 HIJ.out.2.2 HE.out.1 (by rw[←HM.out.2.2.1];exact HO.out) HF.out HG.out⟩)
       go_wp2
       go_end0
       exact⟨rfl,HFin.out⟩
      have he1':¬(mid:Int)<(e:Int):=fun h=>he1 (Int.ofNat_lt.1 h)
      have HG:Hid (SymR ltF κ mid e b f f):=hide (SymR.none_ HE.out.2.2.2.2.2.2 HE.out.2.2.2.1 (fun h=>he1 h.1))
      have HFin:=hide (show ∃d',SR v0 B g n cap d' wr∧SymR ltF κ a m b d d' from ⟨f,HSf.out,sym_join (mid:=mid) (s0:=s0) (r0:=r0) (s:=s) (e:=e) (f:=f) ham hmb (by rw[HL.out];exact hbn) HM.out.1 HD.out HIJ.out.1 HIJ.out.2.2 HE.out.1 (by rw[←HM.out.2.2.1];exact HO.out) HF.out HG.out⟩)
      go_wp2
      go_end0
      exact⟨rfl,HFin.out⟩
     have hl1':¬(a:Int)<(s:Int):=fun h=>hl1 (Int.ofNat_lt.1 h)
     obtain⟨f,hf⟩:∃f,rotL s m e d=f:=⟨_,rfl⟩
     have HF:Hid (SymR ltF κ a s mid (rotL s m e d) f):=hide (by rw[←hf];exact SymR.none_ HE.out.2.2.2.2.1 HE.out.2.2.2.2.2.1 (fun h=>hl1 h.1))
     have HSf:Hid (SR v0 B g n cap f wr):=hide (by rw[←hf];exact HSe.out)
     clear hf
     by_cases he1:mid<e
     ·have he1':(mid:Int)<(e:Int):=Int.ofNat_lt.2 he1
      by_cases he2:e<b
      ·have he2':(e:Int)<(b:Int):=Int.ofNat_lt.2 he2
       go_wp2_with fail
       refine (IH.out wr f mid e b (by have:=HM.out;omega) HSf.out he1 he2 hbn).mono ?_
       rintro _ w4 ⟨rfl,f2,hs4,hg4⟩
       have HSg:=hide hs4
       have HG:=hide hg4
       clear hs4 hg4
       have HFin:=hide (show ∃d',SR v0 B g n cap d' w4∧SymR ltF κ a m b d d' from ⟨f2,HSg.out,sym_join (mid:=mid) (s0:=s0) (r0:=r0) (s:=s) (e:=e) (f:=f) ham hmb (by rw[HL.out];exact hbn) HM.out.1 HD.out HIJ.out.1 HIJ.out.2.2 HE.out.1 (by rw[←HM.out.2.2.1];exact HO.out) HF.out HG.out⟩)
       go_wp2
       go_end0
       exact⟨rfl,HFin.out⟩
      have he2':¬(e:Int)<(b:Int):=fun h=>he2 (Int.ofNat_lt.1 h)
      have HG:Hid (SymR ltF κ mid e b f f):=hide (SymR.none_ HE.out.2.2.2.2.2.2 HE.out.2.2.2.1 (fun h=>he2 h.2))
      have HFin:=hide (show ∃d',SR v0 B g n cap d' wr∧SymR ltF κ a m b d d' from ⟨f,HSf.out,sym_join (mid:=mid) (s0:=s0) (r0:=r0) (s:=s) (e:=e) (f:=f) ham hmb (by rw[HL.out];exact hbn) HM.out.1 HD.out HIJ.out.1 HIJ.out.2.2 HE.out.1 (by rw[←HM.out.2.2.1];exact HO.out) HF.out HG.out⟩)
      go_wp2
      go_end0
      exact⟨rfl,HFin.out⟩
     have he1':¬(mid:Int)<(e:Int):=fun h=>he1 (Int.ofNat_lt.1 h)
     have HG:Hid (SymR ltF κ mid e b f f):=hide (SymR.none_ HE.out.2.2.2.2.2.2 HE.out.2.2.2.1 (fun h=>he1 h.1))
     have HFin:=hide (show ∃d',SR v0 B g n cap d' wr∧SymR ltF κ a m b d d' from ⟨f,HSf.out,sym_join (mid:=mid) (s0:=s0) (r0:=r0) (s:=s) (e:=e) (f:=f) ham hmb (by rw[HL.out];exact hbn) HM.out.1 HD.out HIJ.out.1 HIJ.out.2.2 HE.out.1 (by rw[←HM.out.2.2.1];exact HO.out) HF.out HG.out⟩)
     go_wp2
     go_end0
     exact⟨rfl,HFin.out⟩
    have hc1':¬(s:Int)<(m:Int):=fun h=>hc1 (Int.ofNat_lt.1 h)
    have HSe:Hid (SR v0 B g n cap (rotL s m e d) wr):=hide (by rw[rotL_nil (.inl (by have:=HE.out;omega)) (by have:=HE.out;omega) (by have:=HE.out;have:=HL.out;omega)];exact HS1.out)
    by_cases hl1:a<s
    ·have hl1':(a:Int)<(s:Int):=Int.ofNat_lt.2 hl1
     by_cases hl2:s<mid
     ·have hl2':(s:Int)<(mid:Int):=Int.ofNat_lt.2 hl2
      go_wp2_with fail
      refine (IH.out wr (rotL s m e d) a s mid (by have:=HM.out;omega) HSe.out hl1 hl2 (by have:=HM.out;omega)).mono ?_
      rintro _ w3 ⟨rfl,f,hs3,hf3⟩
      have HSf:=hide hs3
      have HF:=hide hf3
      clear hs3 hf3
      by_cases he1:mid<e
      ·have he1':(mid:Int)<(e:Int):=Int.ofNat_lt.2 he1
       by_cases he2:e<b
       ·have he2':(e:Int)<(b:Int):=Int.ofNat_lt.2 he2
        go_wp2_with fail
        refine (IH.out w3 f mid e b (by have:=HM.out;omega) HSf.out he1 he2 hbn).mono ?_
        rintro _ w4 ⟨rfl,f2,hs4,hg4⟩
        have HSg:=hide hs4
        have HG:=hide hg4
        clear hs4 hg4
        have HFin:=hide (show ∃d',SR v0 B g n cap d' w4∧SymR ltF κ a m b d d' from ⟨f2,HSg.out,sym_join (mid:=mid) (s0:=s0) (r0:=r0) (s:=s) (e:=e) (f:=f) ham hmb (by rw[HL.out];exact hbn) HM.out.1 HD.out HIJ.out.1 HIJ.out.2.2 HE.out.1 (by rw[←HM.out.2.2.1];exact HO.out) HF.out HG.out⟩)
        go_wp2
        go_end0
        exact⟨rfl,HFin.out⟩
       have he2':¬(e:Int)<(b:Int):=fun h=>he2 (Int.ofNat_lt.1 h)
       have HG:Hid (SymR ltF κ mid e b f f):=hide (SymR.none_ HE.out.2.2.2.2.2.2 HE.out.2.2.2.1 (fun h=>he2 h.2))
       have HFin:=hide (show ∃d',SR v0 B g n cap d' w3∧SymR ltF κ a m b d d' from ⟨f,HSf.out,sym_join (mid:=mid) (s0:=s0) (r0:=r0) (s:=s) (e:=e) (f:=f) ham hmb (by rw[HL.out];exact hbn) HM.out.1 HD.out HIJ.out.1 HIJ.out.2.2 HE.out.1 (by rw[←HM.out.2.2.1];exact HO.out) HF.out HG.out⟩)
       go_wp2
       go_end0
       exact⟨rfl,HFin.out⟩
      have he1':¬(mid:Int)<(e:Int):=fun h=>he1 (Int.ofNat_lt.1 h)
      have HG:Hid (SymR ltF κ mid e b f f):=hide (SymR.none_ HE.out.2.2.2.2.2.2 HE.out.2.2.2.1 (fun h=>he1 h.1))
      have HFin:=hide (show ∃d',SR v0 B g n cap d' w3∧SymR ltF κ a m b d d' from ⟨f,HSf.out,sym_join (mid:=mid) (s0:=s0) (r0:=r0) (s:=s) (e:=e) (f:=f) ham hmb (by rw[HL.out];exact hbn) HM.out.1 HD.out HIJ.out.1 HIJ.out.2.2 HE.out.1 (by rw[←HM.out.2.2.1];exact HO.out) HF.out HG.out⟩)
      go_wp2
      go_end0
      exact⟨rfl,HFin.out⟩
     have hl2':¬(s:Int)<(mid:Int):=fun h=>hl2 (Int.ofNat_lt.1 h)
     obtain⟨f,hf⟩:∃f,rotL s m e d=f:=⟨_,rfl⟩
     have HF:Hid (SymR ltF κ a s mid (rotL s m e d) f):=hide (by rw[←hf];exact SymR.none_ HE.out.2.2.2.2.1 HE.out.2.2.2.2.2.1 (fun h=>hl2 h.2))
     have HSf:Hid (SR v0 B g n cap f wr):=hide (by rw[←hf];exact HSe.out)
     clear hf
     by_cases he1:mid<e
     ·have he1':(mid:Int)<(e:Int):=Int.ofNat_lt.2 he1
      by_cases he2:e<b
      ·have he2':(e:Int)<(b:Int):=Int.ofNat_lt.2 he2
       go_wp2_with fail
       refine (IH.out wr f mid e b (by have:=HM.out;omega) HSf.out he1 he2 hbn).mono ?_
       rintro _ w4 ⟨rfl,f2,hs4,hg4⟩
       have HSg:=hide hs4
       have HG:=hide hg4
       clear hs4 hg4
       have HFin:=hide (show ∃d',SR v0 B g n cap d' w4∧SymR ltF κ a m b d d' from ⟨f2,HSg.out,sym_join (mid:=mid) (s0:=s0) (r0:=r0) (s:=s) (e:=e) (f:=f) ham hmb (by rw[HL.out];exact hbn) HM.out.1 HD.out HIJ.out.1 HIJ.out.2.2 HE.out.1 (by rw[←HM.out.2.2.1];exact HO.out) HF.out HG.out⟩)
       go_wp2
       go_end0
       exact⟨rfl,HFin.out⟩
      have he2':¬(e:Int)<(b:Int):=fun h=>he2 (Int.ofNat_lt.1 h)
      have HG:Hid (SymR ltF κ mid e b f f):=hide (SymR.none_ HE.out.2.2.2.2.2.2 HE.out.2.2.2.1 (fun h=>he2 h.2))
      have HFin:=hide (show ∃d',SR v0 B g n cap d' wr∧SymR ltF κ a m b d d' from ⟨f,HSf.out,sym_join (mid:=mid) (s0:=s0) (r0:=r0) (s:=s) (e:=e) (f:=f) ham hmb (by rw[HL.out];exact hbn) HM.out.1 HD.out HIJ.out.1 HIJ.out.2.2 HE.out.1 (by rw[←HM.out.2.2.1];exact HO.out) HF.out HG.out⟩)
      go_wp2
      go_end0
      exact⟨rfl,HFin.out⟩
     have he1':¬(mid:Int)<(e:Int):=fun h=>he1 (Int.ofNat_lt.1 h)
     have HG:Hid (SymR ltF κ mid e b f f):=hide (SymR.none_ HE.out.2.2.2.2.2.2 HE.out.2.2.2.1 (fun h=>he1 h.1))
     have HFin:=hide (show ∃d',SR v0 B g n cap d' wr∧SymR ltF κ a m b d d' from ⟨f,HSf.out,sym_join (mid:=mid) (s0:=s0) (r0:=r0) (s:=s) (e:=e) (f:=f) ham hmb (by rw[HL.out];exact hbn) HM.out.1 HD.out HIJ.out.1 HIJ.out.2.2 HE.out.1 (by rw[←HM.out.2.2.1];exact HO.out) HF.out HG.out⟩)
     go_wp2
     go_end0
     exact⟨rfl,HFin.out⟩
    have hl1':¬(a:Int)<(s:Int):=fun h=>hl1 (Int.ofNat_lt.1 h)
    obtain⟨f,hf⟩:∃f,rotL s m e d=f:=⟨_,rfl⟩
    have HF:Hid (SymR ltF κ a s mid (rotL s m e d) f):=hide (by rw[←hf];exact SymR.none_ HE.out.2.2.2.2.1 HE.out.2.2.2.2.2.1 (fun h=>hl1 h.1))
    have HSf:Hid (SR v0 B g n cap f wr):=hide (by rw[←hf];exact HSe.out)
    clear hf
    by_cases he1:mid<e
    ·have he1':(mid:Int)<(e:Int):=Int.ofNat_lt.2 he1
     by_cases he2:e<b
     ·have he2':(e:Int)<(b:Int):=Int.ofNat_lt.2 he2
      go_wp2_with fail
      refine (IH.out wr f mid e b (by have:=HM.out;omega) HSf.out he1 he2 hbn).mono ?_
      rintro _ w4 ⟨rfl,f2,hs4,hg4⟩
      have HSg:=hide hs4
      have HG:=hide hg4
      clear hs4 hg4
      have HFin:=hide (show ∃d',SR v0 B g n cap d' w4∧SymR ltF κ a m b d d' from ⟨f2,HSg.out,sym_join (mid:=mid) (s0:=s0) (r0:=r0) (s:=s) (e:=e) (f:=f) ham hmb (by rw[HL.out];exact hbn) HM.out.1 HD.out HIJ.out.1 HIJ.out.2.2 HE.out.1 (by rw[←HM.out.2.2.1];exact HO.out) HF.out HG.out⟩)
      go_wp2
      go_end0
      exact⟨rfl,HFin.out⟩
     have he2':¬(e:Int)<(b:Int):=fun h=>he2 (Int.ofNat_lt.1 h)
     have HG:Hid (SymR ltF κ mid e b f f):=hide (SymR.none_ HE.out.2.2.2.2.2.2 HE.out.2.2.2.1 (fun h=>he2 h.2))
     have HFin:=hide (show ∃d',SR v0 B g n cap d' wr∧SymR ltF κ a m b d d' from ⟨f,HSf.out,sym_join (mid:=mid) (s0:=s0) (r0:=r0) (s:=s) (e:=e) (f:=f) ham hmb (by rw[HL.out];exact hbn) HM.out.1 HD.out HIJ.out.1 HIJ.out.2.2 HE.out.1 (by rw[←HM.out.2.2.1];exact HO.out) HF.out HG.out⟩)
     go_wp2
     go_end0
     exact⟨rfl,HFin.out⟩
    have he1':¬(mid:Int)<(e:Int):=fun h=>he1 (Int.ofNat_lt.1 h)
    have HG:Hid (SymR ltF κ mid e b f f):=hide (SymR.none_ HE.out.2.2.2.2.2.2 HE.out.2.2.2.1 (fun h=>he1 h.1))
    have HFin:=hide (show ∃d',SR v0 B g n cap d' wr∧SymR ltF κ a m b d d' from ⟨f,HSf.out,sym_join (mid:=mid) (s0:=s0) (r0:=r0) (s:=s) (e:=e) (f:=f) ham hmb (by rw[HL.out];exact hbn) HM.out.1 HD.out HIJ.out.1 HIJ.out.2.2 HE.out.1 (by rw[←HM.out.2.2.1];exact HO.out) HF.out HG.out⟩)
    go_wp2
    go_end0
    exact⟨rfl,HFin.out⟩
theorem stab_any (κ:Ms→Int) (v0 w:World) (B g n cap:Nat) (d:List Ms) (hS:SR v0 B g n cap d w) (hn:n≤1000000) :
  Calls Tryz.prog 111 #[.slice (some ⟨g,0,none⟩) n cap,.int .i64 (n:Int),.func (.func 106) #[] #[]] w (fun e w'=>e = .returned (.tuple #[])∧∃d',SR v0 B g n cap d' w'∧StS ltF κ n d d'):=by
 have HS:=hide hS
 have HL:=hide hS.1
 clear hS
 go_enter Tryz.func111,Tryz.ntmps111
 go_wp2
 go_loopw [7,8] (fun v7 v8 wr=>∃(k a b:Nat) (d1:List Ms),(a=k*20∧b=a+20∧a≤n)∧v7 = .int .i64 (a:Int)∧v8 = .int .i64 (b:Int)∧Hid (SR v0 B g n cap d1 wr)∧Hid (StA ltF κ n k d d1)) (fun v7 _ _=>n-(intOf v7).toNat)
 case atStart=>exact⟨0,0,20,d,by omega,by rfl,by rfl,HS,hide (StA.start n d)⟩
 case round=>
  obtain⟨k,a,b,d1,hab,rfl,rfl,HS1,HT⟩:=hrel
  by_cases hlt:b≤n
  ·have hI:(b:Int)≤(n:Int):=by omega
   obtain⟨b2,hb2⟩:∃z,b+20=z:=⟨_,rfl⟩
   have e1:(b:Int)+20=(b2:Int):=by omega
   have hb3:b=(k+1)*20∧b2=b+20∧b≤n:=by omega
   have hm3:n-b<n-a:=by omega
   have e2:IntKind.i64.wrap (b2:Int)=(b2:Int):=i64_nat _ (by omega)
   have HAB:=hide hab
   have HB3:=hide hb3
   clear hb2 hab hb3
   go_wp2_with fail
   refine (ins_any κ v0 _ B g n cap d1 a b HS1.out (by have:=HAB.out;omega) hlt hn).mono ?_
   rintro _ w2 ⟨rfl,d2,hs2,hm2,hk2⟩
   have HS2:=hide hs2
   have HT2:Hid (StA ltF κ n (k+1) d d2):=hide (by have h:=HAB.out;rw[h.2.1] at hm2 hk2;exact HT.out.step h.1 (by rw[←h.2.1];exact hlt) hm2 hk2)
   clear hs2 hm2 hk2 HS1 HT
   go_wp2
   go_roundw
   case rel=>first | exact⟨k+1,b,b2,d2,HB3.out,rfl,by first | rfl | go_num,HS2,HT2⟩ | ((repeat apply Exists.intro);exact⟨⟨k+1,b,b2,d2,HB3.out,rfl,by first | rfl | go_num,HS2,HT2⟩,rfl⟩)
   case measure=>simp[intOf];omega
  have hI:¬(b:Int)≤(n:Int):=by omega
  have hna:n<a+20:=by omega
  have han:=hab.2.2
  have HAB:=hide hab
  clear hab
  go_wp2_with fail
  refine (ins_any κ v0 _ B g n cap d1 a n HS1.out han (Nat.le_refl _) hn).mono ?_
  rintro _ w2 ⟨rfl,d2,hs2,hm2,hk2⟩
  have HS2:=hide hs2
  have HT2:Hid (StB ltF κ n 20 d d2):=hide (HT.out.last HAB.out.1 hna HL.out han hm2 hk2)
  clear hs2 hm2 hk2 HS1 HT hI
  go_wp2
  go_loopw [6] (fun v6 wr=>∃(bs:Nat) (d3:List Ms),(20≤bs∧(bs≤2*n∨bs=20))∧v6 = .int .i64 (bs:Int)∧Hid (SR v0 B g n cap d3 wr)∧Hid (StB ltF κ n bs d d3)) (fun v6 _=>2*n-(intOf v6).toNat)
  case atStart=>exact⟨20,d2,by omega,by rfl,HS2,HT2⟩
  case round=>
   clear HS2 HT2
   obtain⟨bs,d3,hbs,rfl,HS3,HT3⟩:=hrel
   have HBS:=hide hbs
   obtain⟨w3,rfl⟩:∃z:World,z=wr:=⟨_,rfl⟩
   by_cases hlt2:bs<n
   ·have hJ:(bs:Int)<(n:Int):=by omega
    obtain⟨bb,hbb⟩:∃z,2*bs=z:=⟨_,rfl⟩
    have g1:(2:Int)*(bs:Int)=(bb:Int):=by omega
    have g2:(bs:Int)*2=(bb:Int):=by omega
    have hbb2:bs<bb∧(20≤bb∧(bb≤2*n∨bb=20))∧bb=bs+bs∧0<bb∧0<bs:=by omega
    have hms:2*n-bb<2*n-bs:=by omega
    have bbl:bb≤9223372036854775807:=by omega
    have HBB:=hide hbb
    have H2:=hide (And.intro hbb2 hms)
    have g3:IntKind.i64.wrap (bb:Int)=(bb:Int):=i64_nat _ bbl
    have HG:=hide (And.intro g1 (And.intro g2 g3))
    clear hbb hbb2 hms hbs
    go_wp2
    go_loopw [7,8] (fun v7 v8 wr=>∃(k a b:Nat) (d4:List Ms),(a=k*(2*bs)∧b=a+2*bs∧a≤n)∧v7 = .int .i64 (a:Int)∧v8 = .int .i64 (b:Int)∧Hid (SR v0 B g n cap d4 wr)∧Hid (StC ltF κ n bs k d d4)) (fun v7 _ _=>n-(intOf v7).toNat)
    case atStart=>exact⟨0,0,bb,d3,⟨by rw[Nat.zero_mul],by have:=HBB.out;omega,Nat.zero_le _⟩,by rfl,rfl,HS3,hide HT3.out.blocks⟩
    case round=>
     clear HS3 HT3 g1 g2 g3
     obtain⟨k,a,b,d4,hab2,rfl,rfl,HS4,HT4⟩:=hrel
     by_cases hlt3:b≤n
     ·have hI:(b:Int)≤(n:Int):=by omega
      obtain⟨am,ham⟩:∃z,a+bs=z:=⟨_,rfl⟩
      obtain⟨b2,hb2⟩:∃z,b+bb=z:=⟨_,rfl⟩
      have e1:(a:Int)+(bs:Int)=(am:Int):=by omega
      have e2:(b:Int)+(bb:Int)=(b2:Int):=by omega
      have hq:a<am∧am<b∧b-a≤n∧n-b<n-a:=by have:=HBB.out;have:=H2.out;omega
      have hb3:b=(k+1)*(2*bs)∧b2=b+2*bs∧b≤n:=⟨by rw[Nat.add_mul,Nat.one_mul];omega,by have:=HBB.out;omega,hlt3⟩
      have bam:am≤9223372036854775807:=by omega
      have bb2:b2≤9223372036854775807:=by omega
      have HQ:=hide hq
      have HAM:=hide ham
      have HAB2:=hide hab2
      have HB3:=hide hb3
      clear hq ham hb2 hab2 hb3
      obtain⟨g1,g2,g3⟩:=HG.out
      have e3:IntKind.i64.wrap (am:Int)=(am:Int):=i64_nat _ bam
      have e4:IntKind.i64.wrap (b2:Int)=(b2:Int):=i64_nat _ bb2
      go_wp2_with fail
      refine (sym_any κ v0 B g n cap hn n _ d4 a am b HQ.out.2.2.1 HS4.out HQ.out.1 HQ.out.2.1 hlt3).mono ?_
      rintro _ w5 ⟨rfl,d5,hs5,hk5⟩
      have HS5:=hide hs5
      have HT5:Hid (StC ltF κ n bs (k+1) d d5):=hide (HT4.out.step HAB2.out.1 (by rw[←HAB2.out.2.1];exact hlt3) (by rw[HAM.out,←HAB2.out.2.1];exact hk5))
      clear hs5 hk5 HS4 HT4
      go_wp2
      clear e1 e2 e3 e4 g1 g2 g3
      go_roundw
      case rel=>first | exact⟨k+1,b,b2,d5,HB3.out,by first | rfl | go_num,by first | rfl | go_num,HS5,HT5⟩ | ((repeat apply Exists.intro);exact⟨⟨k+1,b,b2,d5,HB3.out,by first | rfl | go_num,by first | rfl | go_num,HS5,HT5⟩,rfl⟩)
      case measure=>have:=HQ.out;simp[intOf];omega
     have hI:¬(b:Int)≤(n:Int):=by omega
     obtain⟨am,ham⟩:∃z,a+bs=z:=⟨_,rfl⟩
     have e1:(a:Int)+(bs:Int)=(am:Int):=by omega
     have bam:am≤9223372036854775807:=by omega
     have HAM:=hide ham
     have hbn3:n<a+2*bs:=by omega
     have HN3:=hide hbn3
     have HAB2:=hide hab2
     by_cases hlt4:am<n
     ·have hq:a<am∧n-a≤n:=by have:=H2.out;omega
      have hK:(am:Int)<(n:Int):=by omega
      clear ham hab2 hbn3
      obtain⟨g1,g2,g3⟩:=HG.out
      have e3:IntKind.i64.wrap (am:Int)=(am:Int):=i64_nat _ bam
      go_wp2_with fail
      refine (sym_any κ v0 B g n cap hn n _ d4 a am n hq.2 HS4.out hq.1 hlt4 (Nat.le_refl _)).mono ?_
      rintro _ w5 ⟨rfl,d5,hs5,hk5⟩
      have HS5:=hide hs5
      have HT5:Hid (StB ltF κ n bb d d5):=hide (by rw[←HBB.out];exact HT4.out.last1 HAB2.out.1 HN3.out HL.out (by rw[HAM.out];exact hk5))
      clear hs5 hk5 HS4 HT4
      go_wp2
      clear e1 e3 g1 g2 g3
      go_roundw
      case rel=>first | exact⟨bb,d5,H2.out.1.2.1,by first | rfl | go_num,HS5,HT5⟩ | ((repeat apply Exists.intro);exact⟨⟨bb,d5,H2.out.1.2.1,by first | rfl | go_num,HS5,HT5⟩,rfl⟩)
      case measure=>have:=H2.out;simp[intOf];omega
     have hK:¬(am:Int)<(n:Int):=by omega
     have HT5:Hid (StB ltF κ n bb d d4):=hide (by rw[←HBB.out];exact HT4.out.last2 hab2.1 (by omega) HL.out)
     clear ham hab2 hbn3
     obtain⟨g1,g2,g3⟩:=HG.out
     have e3:IntKind.i64.wrap (am:Int)=(am:Int):=i64_nat _ bam
     go_wp2
     clear e1 e3 g1 g2 g3
     go_roundw
     case rel=>first | exact⟨bb,d4,H2.out.1.2.1,by first | rfl | go_num,HS4,HT5⟩ | ((repeat apply Exists.intro);exact⟨⟨bb,d4,H2.out.1.2.1,by first | rfl | go_num,HS4,HT5⟩,rfl⟩)
     case measure=>have:=H2.out;simp[intOf];omega
   have hJ:¬(bs:Int)<(n:Int):=by omega
   clear hbs
   have HFin:=hide (show ∃d',SR v0 B g n cap d' w3∧StS ltF κ n d d' from ⟨d3,HS3.out,HT3.out.done (by omega)⟩)
   go_wp2
   go_end0
   exact⟨rfl,HFin.out⟩
theorem sort_any (κ:Ms→Int) (v0 w:World) (B g n cap:Nat) (d:List Ms) (hS:SR v0 B g n cap d w) (hn:n≤1000000) :
  Calls Tryz.prog 105 #[.slice (some ⟨g,0,none⟩) n cap,.func (.func 106) #[] #[]] w (fun e w'=>e = .returned (.tuple #[])∧∃d',SR v0 B g n cap d' w'∧StS ltF κ n d d'):=by
 go_enter Tryz.func105,Tryz.ntmps105
 go_wp2_with fail
 refine (stab_any κ v0 _ B g n cap d hS hn).mono ?_
 rintro _ w1 ⟨rfl,h⟩
 have H:=hide h
 clear h
 go_wp2
 go_end0
 exact⟨rfl,H.out⟩
def apartF (a b:Int):Int:=if dist b<dist a then dist a-dist b else dist b-dist a
theorem apart_any (w:World) (a b:Int) (h1:-9223372036854775808≤a) (h2:a≤9223372036854775807) (h3:-9223372036854775808≤b) (h4:b≤9223372036854775807):Calls Tryz.prog 109 #[.int .i64 a,.int .i64 b] w fun e w'=>e = .returned (.int .i64 (apartF a b))∧w=w':=by
 have ba:=dist_bounds a
 have bb:=dist_bounds b
 have hF:=hide (show apartF a b=if dist b<dist a then dist a-dist b else dist b-dist a from rfl)
 go_enter Tryz.func109,Tryz.ntmps109
 go_wp2_with fail
 refine (distance_any _ a h1 h2).mono ?_
 rintro e w1 ⟨rfl,rfl⟩
 go_wp2_with fail
 refine (distance_any _ b h3 h4).mono ?_
 rintro e w1 ⟨rfl,rfl⟩
 obtain⟨x,hx⟩:∃x,dist a=x:=⟨_,rfl⟩
 obtain⟨y,hy⟩:∃y,dist b=y:=⟨_,rfl⟩
 rw[hx] at ba hF ⊢
 rw[hy] at bb hF ⊢
 clear hx hy
 have e1:IntKind.i64.wrap (x-y)=x-y:=IntWalk.i64_in _ (by omega)
 have e2:IntKind.i64.wrap (y-x)=y-x:=IntWalk.i64_in _ (by omega)
 rcases (show x<y∨¬x<y by omega) with hlt | hlt
 all_goals
  go_wp2
  all_goals
   go_ret
   exact⟨ret_i64 (by rw[hF.out];split <;> omega),rfl⟩
def partT (k was val:Int) (chg:Bool) (n:Nat):Int×Int:=if k=1 then (if n=0 then max val 0 else 0,apartF was val) else if (k=2∨k=3)∧chg=true then (0,1) else (0,0)
theorem part_any (w:World) (k j1 j2 j3 j4 was val:Int) (chg:Bool) (A:Option Addr) (n c:Nat) (h1:-9223372036854775808≤was) (h2:was≤9223372036854775807) (h3:-9223372036854775808≤val) (h4:val≤9223372036854775807):Calls Tryz.prog 96 #[.agg #[.int .u8 k,.int .i64 j1,.int .i64 j2,.int .i64 j3,.int .i64 j4],.int .i64 was,.int .i64 val,.bool chg,.slice A n c] w fun e w'=>e = .returned (.agg #[.int .i64 (partT k was val chg n).1,.int .i64 (partT k was val chg n).2])∧Below w.heap.size w w':=by
 obtain⟨u,hu⟩:∃u,(w.alloc (.cells #[.int .u8 k,.int .i64 j1,.int .i64 j2,.int .i64 j3,.int .i64 j4] 27)).alloc (.cells #[.int .i64 0,.int .i64 0] 165)=u:=⟨_,rfl⟩
 have hzu:w.heap.size+1<u.heap.size:=by rw[←hu];simp
 have hbu:=hide (show Below w.heap.size w u by rw[←hu];exact ((Below.refl _ _).alloc (Nat.le_refl _) _).alloc (by simp) _)
 have M1:=hide (show u.heap[w.heap.size+1]?=some (.cells #[.int .i64 0,.int .i64 0] 165) by rw[←hu];have h:=heap_alloc_last (w.alloc (.cells #[.int .u8 k,.int .i64 j1,.int .i64 j2,.int .i64 j3,.int .i64 j4] 27)) (.cells #[.int .i64 0,.int .i64 0] 165);simpa using h)
 have M0:=hide (show u.heap[w.heap.size]?=some (.cells #[.int .u8 k,.int .i64 j1,.int .i64 j2,.int .i64 j3,.int .i64 j4] 27) by rw[←hu];exact heap_alloc_keep (heap_alloc_last _ _))
 have HU:=hide hu
 clear hu
 by_cases k1:k=1
 ·subst k1
  by_cases hn:n=0
  ·subst hn
   by_cases hlt:val<0
   ·have N0:=M0.out
    obtain⟨c0,c1,c2,c3,c4⟩:=zr5 N0
    clear N0
    go_enter Tryz.func96,Tryz.ntmps96
    go_wp2_with fail
    rw[HU.out]
    refine (shares_any _ 1 j1 j2 j3 j4).mono ?_
    rintro e w1 ⟨rfl,hb⟩
    have HB:=hide hb
    have hzw:=hb.size
    clear c0 c1 c2 c3 c4
    have N3:=(hb.block _ hzu).trans M1.out
    clear hb
    obtain⟨z0,z1⟩:=zr2 N3
    have zq:=zf N3;have zf0:=zq 0;have zf1:=zq 1;clear zq
    obtain⟨f,hf⟩:∃z,(w1.setCell ⟨w.heap.size+1,0,none⟩ (.int .i64 (0))).setCell ⟨w.heap.size+1,1,none⟩ (.int .i64 (apartF was val))=z:=⟨_,rfl⟩
    have hfB:Below w.heap.size w f:=by rw[←hf];exact ((hbu.out.trans (HB.out.mono (by omega))).setCell (p:=⟨w.heap.size+1,0,none⟩) (by show w.heap.size≤w.heap.size+1;omega) _).setCell (p:=⟨w.heap.size+1,1,none⟩) (by show w.heap.size≤w.heap.size+1;omega) _
    have hf2:=heap_setCell_same _ (w.heap.size+1) 1 _ _ (.int .i64 (apartF was val)) (heap_setCell_same w1 (w.heap.size+1) 0 _ _ (.int .i64 (0)) N3)
    rw[hf] at hf2
    obtain⟨y0,y1⟩:=zr2 hf2
    have HFin:=hide (And.intro hf (And.intro hfB (And.intro y0 y1)))
    clear hf hfB hf2 y0 y1 N3
    go_wp2_with fail
    refine (apart_any _ was val h1 h2 h3 h4).mono ?_
    rintro e w2 ⟨rfl,rfl⟩
    go_wp2
    obtain⟨hf,hfB,y0,y1⟩:=HFin.out
    rw[hf]
    exact bodyPost_ret (v:=.agg #[.int .i64 (0),.int .i64 (apartF was val)]) (by simp[results,Tryz.results96,go_sem,y0,y1]) rfl ⟨by rw[show partT 1 was val chg 0=(0,apartF was val) by simp[partT];omega],hfB⟩
   have N0:=M0.out
   obtain⟨c0,c1,c2,c3,c4⟩:=zr5 N0
   clear N0
   go_enter Tryz.func96,Tryz.ntmps96
   go_wp2_with fail
   rw[HU.out]
   refine (shares_any _ 1 j1 j2 j3 j4).mono ?_
   rintro e w1 ⟨rfl,hb⟩
   have HB:=hide hb
   have hzw:=hb.size
   clear c0 c1 c2 c3 c4
   have N3:=(hb.block _ hzu).trans M1.out
   clear hb
   obtain⟨z0,z1⟩:=zr2 N3
   have zq:=zf N3;have zf0:=zq 0;have zf1:=zq 1;clear zq
   obtain⟨f,hf⟩:∃z,(w1.setCell ⟨w.heap.size+1,0,none⟩ (.int .i64 (val))).setCell ⟨w.heap.size+1,1,none⟩ (.int .i64 (apartF was val))=z:=⟨_,rfl⟩
   have hfB:Below w.heap.size w f:=by rw[←hf];exact ((hbu.out.trans (HB.out.mono (by omega))).setCell (p:=⟨w.heap.size+1,0,none⟩) (by show w.heap.size≤w.heap.size+1;omega) _).setCell (p:=⟨w.heap.size+1,1,none⟩) (by show w.heap.size≤w.heap.size+1;omega) _
   have hf2:=heap_setCell_same _ (w.heap.size+1) 1 _ _ (.int .i64 (apartF was val)) (heap_setCell_same w1 (w.heap.size+1) 0 _ _ (.int .i64 (val)) N3)
   rw[hf] at hf2
   obtain⟨y0,y1⟩:=zr2 hf2
   have HFin:=hide (And.intro hf (And.intro hfB (And.intro y0 y1)))
   clear hf hfB hf2 y0 y1 N3
   go_wp2_with fail
   refine (apart_any _ was val h1 h2 h3 h4).mono ?_
   rintro e w2 ⟨rfl,rfl⟩
   go_wp2
   obtain⟨hf,hfB,y0,y1⟩:=HFin.out
   rw[hf]
   exact bodyPost_ret (v:=.agg #[.int .i64 (val),.int .i64 (apartF was val)]) (by simp[results,Tryz.results96,go_sem,y0,y1]) rfl ⟨by rw[show partT 1 was val chg 0=(val,apartF was val) by simp[partT];omega],hfB⟩
  have hn2:¬(n:Int)=0:=by omega
  have N0:=M0.out
  obtain⟨c0,c1,c2,c3,c4⟩:=zr5 N0
  clear N0
  go_enter Tryz.func96,Tryz.ntmps96
  go_wp2_with fail
  rw[HU.out]
  refine (shares_any _ 1 j1 j2 j3 j4).mono ?_
  rintro e w1 ⟨rfl,hb⟩
  have HB:=hide hb
  have hzw:=hb.size
  clear c0 c1 c2 c3 c4
  have N3:=(hb.block _ hzu).trans M1.out
  clear hb
  obtain⟨z0,z1⟩:=zr2 N3
  have zq:=zf N3;have zf0:=zq 0;have zf1:=zq 1;clear zq
  obtain⟨f,hf⟩:∃z,(w1.setCell ⟨w.heap.size+1,0,none⟩ (.int .i64 (0))).setCell ⟨w.heap.size+1,1,none⟩ (.int .i64 (apartF was val))=z:=⟨_,rfl⟩
  have hfB:Below w.heap.size w f:=by rw[←hf];exact ((hbu.out.trans (HB.out.mono (by omega))).setCell (p:=⟨w.heap.size+1,0,none⟩) (by show w.heap.size≤w.heap.size+1;omega) _).setCell (p:=⟨w.heap.size+1,1,none⟩) (by show w.heap.size≤w.heap.size+1;omega) _
  have hf2:=heap_setCell_same _ (w.heap.size+1) 1 _ _ (.int .i64 (apartF was val)) (heap_setCell_same w1 (w.heap.size+1) 0 _ _ (.int .i64 (0)) N3)
  rw[hf] at hf2
  obtain⟨y0,y1⟩:=zr2 hf2
  have HFin:=hide (And.intro hf (And.intro hfB (And.intro y0 y1)))
  clear hf hfB hf2 y0 y1 N3
  go_wp2_with fail
  refine (apart_any _ was val h1 h2 h3 h4).mono ?_
  rintro e w2 ⟨rfl,rfl⟩
  go_wp2
  obtain⟨hf,hfB,y0,y1⟩:=HFin.out
  rw[hf]
  exact bodyPost_ret (v:=.agg #[.int .i64 (0),.int .i64 (apartF was val)]) (by simp[results,Tryz.results96,go_sem,y0,y1]) rfl ⟨by rw[show partT 1 was val chg n=(0,apartF was val) by simp[partT,hn]],hfB⟩
 by_cases k2:k=2
 ·subst k2
  cases chg
  ·have N0:=M0.out
   obtain⟨c0,c1,c2,c3,c4⟩:=zr5 N0
   clear N0
   go_enter Tryz.func96,Tryz.ntmps96
   go_wp2_with fail
   rw[HU.out]
   refine (shares_any _ 2 j1 j2 j3 j4).mono ?_
   rintro e w1 ⟨rfl,hb⟩
   have HB:=hide hb
   have hzw:=hb.size
   clear c0 c1 c2 c3 c4
   have N3:=(hb.block _ hzu).trans M1.out
   clear hb
   obtain⟨z0,z1⟩:=zr2 N3
   have zq:=zf N3;have zf0:=zq 0;have zf1:=zq 1;clear zq
   obtain⟨f,hf⟩:∃z,(w1.setCell ⟨w.heap.size+1,0,none⟩ (.int .i64 (0))).setCell ⟨w.heap.size+1,1,none⟩ (.int .i64 (0))=z:=⟨_,rfl⟩
   have hfB:Below w.heap.size w f:=by rw[←hf];exact ((hbu.out.trans (HB.out.mono (by omega))).setCell (p:=⟨w.heap.size+1,0,none⟩) (by show w.heap.size≤w.heap.size+1;omega) _).setCell (p:=⟨w.heap.size+1,1,none⟩) (by show w.heap.size≤w.heap.size+1;omega) _
   have hf2:=heap_setCell_same _ (w.heap.size+1) 1 _ _ (.int .i64 (0)) (heap_setCell_same w1 (w.heap.size+1) 0 _ _ (.int .i64 (0)) N3)
   rw[hf] at hf2
   obtain⟨y0,y1⟩:=zr2 hf2
   have HFin:=hide (And.intro hf (And.intro hfB (And.intro y0 y1)))
   clear hf hfB hf2 y0 y1 N3
   go_wp2
   obtain⟨hf,hfB,y0,y1⟩:=HFin.out
   rw[hf]
   exact bodyPost_ret (v:=.agg #[.int .i64 (0),.int .i64 (0)]) (by simp[results,Tryz.results96,go_sem,y0,y1]) rfl ⟨by simp[partT],hfB⟩
  have N0:=M0.out
  obtain⟨c0,c1,c2,c3,c4⟩:=zr5 N0
  clear N0
  go_enter Tryz.func96,Tryz.ntmps96
  go_wp2_with fail
  rw[HU.out]
  refine (shares_any _ 2 j1 j2 j3 j4).mono ?_
  rintro e w1 ⟨rfl,hb⟩
  have HB:=hide hb
  have hzw:=hb.size
  clear c0 c1 c2 c3 c4
  have N3:=(hb.block _ hzu).trans M1.out
  clear hb
  obtain⟨z0,z1⟩:=zr2 N3
  have zq:=zf N3;have zf0:=zq 0;have zf1:=zq 1;clear zq
  obtain⟨f,hf⟩:∃z,(w1.setCell ⟨w.heap.size+1,0,none⟩ (.int .i64 (0))).setCell ⟨w.heap.size+1,1,none⟩ (.int .i64 (1))=z:=⟨_,rfl⟩
  have hfB:Below w.heap.size w f:=by rw[←hf];exact ((hbu.out.trans (HB.out.mono (by omega))).setCell (p:=⟨w.heap.size+1,0,none⟩) (by show w.heap.size≤w.heap.size+1;omega) _).setCell (p:=⟨w.heap.size+1,1,none⟩) (by show w.heap.size≤w.heap.size+1;omega) _
  have hf2:=heap_setCell_same _ (w.heap.size+1) 1 _ _ (.int .i64 (1)) (heap_setCell_same w1 (w.heap.size+1) 0 _ _ (.int .i64 (0)) N3)
  rw[hf] at hf2
  obtain⟨y0,y1⟩:=zr2 hf2
  have HFin:=hide (And.intro hf (And.intro hfB (And.intro y0 y1)))
  clear hf hfB hf2 y0 y1 N3
  go_wp2
  obtain⟨hf,hfB,y0,y1⟩:=HFin.out
  rw[hf]
  exact bodyPost_ret (v:=.agg #[.int .i64 (0),.int .i64 (1)]) (by simp[results,Tryz.results96,go_sem,y0,y1]) rfl ⟨by simp[partT],hfB⟩
 by_cases k3:k=3
 ·subst k3
  cases chg
  ·have N0:=M0.out
   obtain⟨c0,c1,c2,c3,c4⟩:=zr5 N0
   clear N0
   go_enter Tryz.func96,Tryz.ntmps96
   go_wp2_with fail
   rw[HU.out]
   refine (shares_any _ 3 j1 j2 j3 j4).mono ?_
   rintro e w1 ⟨rfl,hb⟩
   have HB:=hide hb
   have hzw:=hb.size
   clear c0 c1 c2 c3 c4
   have N3:=(hb.block _ hzu).trans M1.out
   clear hb
   obtain⟨z0,z1⟩:=zr2 N3
   have zq:=zf N3;have zf0:=zq 0;have zf1:=zq 1;clear zq
   obtain⟨f,hf⟩:∃z,(w1.setCell ⟨w.heap.size+1,0,none⟩ (.int .i64 (0))).setCell ⟨w.heap.size+1,1,none⟩ (.int .i64 (0))=z:=⟨_,rfl⟩
   have hfB:Below w.heap.size w f:=by rw[←hf];exact ((hbu.out.trans (HB.out.mono (by omega))).setCell (p:=⟨w.heap.size+1,0,none⟩) (by show w.heap.size≤w.heap.size+1;omega) _).setCell (p:=⟨w.heap.size+1,1,none⟩) (by show w.heap.size≤w.heap.size+1;omega) _
   have hf2:=heap_setCell_same _ (w.heap.size+1) 1 _ _ (.int .i64 (0)) (heap_setCell_same w1 (w.heap.size+1) 0 _ _ (.int .i64 (0)) N3)
   rw[hf] at hf2
   obtain⟨y0,y1⟩:=zr2 hf2
   have HFin:=hide (And.intro hf (And.intro hfB (And.intro y0 y1)))
   clear hf hfB hf2 y0 y1 N3
   go_wp2
   obtain⟨hf,hfB,y0,y1⟩:=HFin.out
   rw[hf]
   exact bodyPost_ret (v:=.agg #[.int .i64 (0),.int .i64 (0)]) (by simp[results,Tryz.results96,go_sem,y0,y1]) rfl ⟨by simp[partT],hfB⟩
  have N0:=M0.out
  obtain⟨c0,c1,c2,c3,c4⟩:=zr5 N0
  clear N0
  go_enter Tryz.func96,Tryz.ntmps96
  go_wp2_with fail
  rw[HU.out]
  refine (shares_any _ 3 j1 j2 j3 j4).mono ?_
  rintro e w1 ⟨rfl,hb⟩
  have HB:=hide hb
  have hzw:=hb.size
  clear c0 c1 c2 c3 c4
  have N3:=(hb.block _ hzu).trans M1.out
  clear hb
  obtain⟨z0,z1⟩:=zr2 N3
  have zq:=zf N3;have zf0:=zq 0;have zf1:=zq 1;clear zq
  obtain⟨f,hf⟩:∃z,(w1.setCell ⟨w.heap.size+1,0,none⟩ (.int .i64 (0))).setCell ⟨w.heap.size+1,1,none⟩ (.int .i64 (1))=z:=⟨_,rfl⟩
  have hfB:Below w.heap.size w f:=by rw[←hf];exact ((hbu.out.trans (HB.out.mono (by omega))).setCell (p:=⟨w.heap.size+1,0,none⟩) (by show w.heap.size≤w.heap.size+1;omega) _).setCell (p:=⟨w.heap.size+1,1,none⟩) (by show w.heap.size≤w.heap.size+1;omega) _
  have hf2:=heap_setCell_same _ (w.heap.size+1) 1 _ _ (.int .i64 (1)) (heap_setCell_same w1 (w.heap.size+1) 0 _ _ (.int .i64 (0)) N3)
  rw[hf] at hf2
  obtain⟨y0,y1⟩:=zr2 hf2
  have HFin:=hide (And.intro hf (And.intro hfB (And.intro y0 y1)))
  clear hf hfB hf2 y0 y1 N3
  go_wp2
  obtain⟨hf,hfB,y0,y1⟩:=HFin.out
  rw[hf]
  exact bodyPost_ret (v:=.agg #[.int .i64 (0),.int .i64 (1)]) (by simp[results,Tryz.results96,go_sem,y0,y1]) rfl ⟨by simp[partT],hfB⟩
 obtain⟨hk1,hk2,hk3⟩:decide (k=1)=false∧decide (k=2)=false∧decide (k=3)=false:=by simp[k1,k2,k3]
 have N0:=M0.out
 obtain⟨c0,c1,c2,c3,c4⟩:=zr5 N0
 clear N0
 go_enter Tryz.func96,Tryz.ntmps96
 go_wp2_with fail
 rw[HU.out]
 refine (shares_any _ k j1 j2 j3 j4).mono ?_
 rintro e w1 ⟨rfl,hb⟩
 have HB:=hide hb
 have hzw:=hb.size
 clear c0 c1 c2 c3 c4
 have N3:=(hb.block _ hzu).trans M1.out
 clear hb
 rw[hk1,hk2,hk3]
 obtain⟨z0,z1⟩:=zr2 N3
 have zq:=zf N3;have zf0:=zq 0;have zf1:=zq 1;clear zq
 obtain⟨f,hf⟩:∃z,(w1.setCell ⟨w.heap.size+1,0,none⟩ (.int .i64 (0))).setCell ⟨w.heap.size+1,1,none⟩ (.int .i64 (0))=z:=⟨_,rfl⟩
 have hfB:Below w.heap.size w f:=by rw[←hf];exact ((hbu.out.trans (HB.out.mono (by omega))).setCell (p:=⟨w.heap.size+1,0,none⟩) (by show w.heap.size≤w.heap.size+1;omega) _).setCell (p:=⟨w.heap.size+1,1,none⟩) (by show w.heap.size≤w.heap.size+1;omega) _
 have hf2:=heap_setCell_same _ (w.heap.size+1) 1 _ _ (.int .i64 (0)) (heap_setCell_same w1 (w.heap.size+1) 0 _ _ (.int .i64 (0)) N3)
 rw[hf] at hf2
 obtain⟨y0,y1⟩:=zr2 hf2
 have HFin:=hide (And.intro hf (And.intro hfB (And.intro y0 y1)))
 clear hf hfB hf2 y0 y1 N3
 go_wp2
 obtain⟨hf,hfB,y0,y1⟩:=HFin.out
 rw[hf]
 exact bodyPost_ret (v:=.agg #[.int .i64 (0),.int .i64 (0)]) (by simp[results,Tryz.results96,go_sem,y0,y1]) rfl ⟨by simp[partT,k1,k2,k3],hfB⟩
end Go.Proofs.YtpojjmbalgmcoaaGreat

/- Lemmas: Sgw, Stw, Sbk. -/
import Derived.Test.YtpojjmbalgmcoaaGreatStWw26
import Derived.Test.YtpojjmbalgmcoaaGreatStWw27
set_option linter.unusedVariables false
set_option linter.unusedSimpArgs false
set_option maxRecDepth 100000
set_option maxHeartbeats 16000000
namespace Go.Proofs.YtpojjmbalgmcoaaGreat
open Go.RowKit
theorem getP_lens (bs:List UInt8):(getP bs).vals.length=(getP bs).own.length∧(getP bs).chg.length=(getP bs).own.length∧(getP bs).inb.length=(getP bs).own.length:=by
 unfold getP
 rcases h:getF bs with _ | p
 ·exact⟨rfl,rfl,rfl⟩
 obtain⟨m,rs,rfl⟩:∃m rs,p=partOf m rs:=by
  unfold getF at h
  split at h
  ·cases h
  split at h
  ·split at h
   ·injection h with h
    exact⟨_,_,h.symm⟩
   cases h
  cases h
 simp[partOf]
theorem sameS_selfG (p:SPart):sameS p p=true:=by simp[sameS,eqL_self]
theorem statesGet_walk (w:World) (A0:Option Addr) (bs:List UInt8) (c:Nat) (hR:Rd w w.heap.size A0 (u8s bs)) (hlm:bs.length≤9223372036854775807) :
  Calls Tryz.prog 11 #[.slice A0 bs.length c] w fun e W'=>e = .returned (.bool true)∧Below w.heap.size w W':=by
 obtain⟨L,hL⟩:∃L,bs.length=L:=⟨_,rfl⟩
 rw[hL] at hlm ⊢
 by_cases hl:1200<L
 ·clear hR hL
  have hl':(1200:Int)<(L:Int):=by omega
  go_enter Tryz.func11,Tryz.ntmps11
  go_wp2_with fail
  refine (works_any _).mono ?_
  rintro e y2 ⟨rfl,k2⟩
  have HFin:=hide k2
  clear k2
  go_wp2
  go_ret
  exact⟨rfl,HFin.out⟩
 have k1:=run_string_of (P:=Tryz.prog) w 45 9 5 A0 c _ bs Tryz.underlying45 Tryz.underlying5 Tryz.underlying9 hR
 have k2:=run_bytes_of (P:=Tryz.prog) w 9 45 5 bs Tryz.underlying9 Tryz.underlying45 Tryz.underlying5
 rw[hL] at k1 k2
 obtain⟨cap,hcap⟩:∃z,grownCap w L 0 5=z:=⟨_,rfl⟩
 rw[hcap] at k2
 obtain⟨wb,hwb⟩:∃z,bytesWorld w 5 bs=z:=⟨_,rfl⟩
 rw[hwb] at k2
 have hwbs:wb.heap.size=w.heap.size+1:=by rw[←hwb];exact bytesWorld_size _ _ _
 have HBb:=hide (show Below w.heap.size w wb by rw[←hwb];exact bytesWorld_below _ _ _
   )
 have HRb:=hide (show Rd wb wb.heap.size (some ⟨w.heap.size,0,none⟩) (u8s bs) by have h:=bytesWorld_rd w 5 bs;rw[hwb] at h;rw[hwbs];exact h)
 have HR:=hide hR
 have HL:=hide hL
 have hwb2:w.heap.size+1≤wb.heap.size:=by omega
 have hl':(L:Int)≤1200:=by omega
 clear hcap hwb hwbs hR hL
 go_enter Tryz.func11,Tryz.ntmps11
 go_wp2_with fail
 refine (sget_any wb (some ⟨w.heap.size,0,none⟩) bs L cap HL.out HRb.out (by omega)).mono ?_
 rintro e w1 ⟨no,nv,nc,ni,Ao1,co1,Av1,cv1,Ac1,cc1,Ai1,ci1,hsl,hno,rfl,hsi,hb1⟩
 obtain⟨p,hp⟩:∃p,getP bs=p:=⟨_,rfl⟩
 obtain⟨q,hq⟩:∃q,getE bs=q:=⟨_,rfl⟩
 rw[hp] at hsl hsi ⊢
 rw[hq]
 have HP:=hide hp
 have HQ:=hide hq
 have HL1:=hide hsl
 have HI0:=hide hsi
 have KB1:=hide hb1
 have hw1:=hb1.size
 have hR1:=hide (HRb.out.next hb1)
 have hlen2:nv≤1000000∧nc≤1000000∧ni≤1000000∨True:=.inr trivial
 clear hsl hsi hb1 hp hq k1 k2 hlen2
 go_upto_region 5 with fail
 obtain⟨w2,hw2⟩:∃z,w1.alloc (.cells #[.int .i64 p.step,.slice Ao1 no co1,.slice Av1 nv cv1,.slice Ac1 nc cc1,.slice Ai1 ni ci1] 42)=z:=⟨_,rfl⟩
 rw[hw2]
 obtain⟨b1,hbb1⟩:∃z,w1.heap.size=z:=⟨_,rfl⟩
 have hb1s:b1<w2.heap.size:=by rw[←hw2,←hbb1];simp
 have M1':=hide (show w2.heap[b1]?=some (.cells #[.int .i64 p.step,.slice Ao1 no co1,.slice Av1 nv cv1,.slice Ac1 nc cc1,.slice Ai1 ni ci1] 42) by rw[←hw2,←hbb1];exact heap_alloc_last _ _)
 have KB2:=hide (show Below w1.heap.size w1 w2 by rw[←hw2];exact (Below.refl _ _).alloc (Nat.le_refl _) _)
 have hw12:=KB2.out.size
 rw[hbb1]
 have HBB1:=hide hbb1
 clear hw2 hbb1
 have HRr:=hide (((HR.out.next HBb.out).next KB1.out).next KB2.out)
 go_wp2_with fail
 refine (rget_any w2 A0 bs L c HL.out HRr.out (by omega)).mono ?_
 rintro e w3 ⟨no',nv',nc',ni',Ao2,co2,Av2,cv2,Ac2,cc2,Ai2,ci2,hsl,hno',rfl,hsi,hb3⟩
 rw[HP.out] at hsl hsi ⊢
 rw[HQ.out]
 obtain rfl:no'=no:=by have:=HL1.out.1;have:=hsl.1;omega
 obtain rfl:nv'=nv:=by have:=HL1.out.2.1;have:=hsl.2.1;omega
 obtain rfl:nc'=nc:=by have:=HL1.out.2.2.1;have:=hsl.2.2.1;omega
 obtain rfl:ni'=ni:=by have:=HL1.out.2.2.2;have:=hsl.2.2.2;omega
 have HI3:=hide hsi
 have KB3:=hide hb3
 have hw3:=hb3.size
 have M13:=hide ((hb3.block b1 hb1s).trans M1'.out)
 clear hsl hsi hb3
 go_upto_region 6 with fail
 obtain⟨ws,hws⟩:∃z,w3.alloc (.cells #[.int .i64 p.step,.slice Ao2 no' co2,.slice Av2 nv' cv2,.slice Ac2 nc' cc2,.slice Ai2 ni' ci2] 64)=z:=⟨_,rfl⟩
 rw[hws]
 obtain⟨b2,hbb2⟩:∃z,w3.heap.size=z:=⟨_,rfl⟩
 have hb2s:b2<ws.heap.size:=by rw[←hws,←hbb2];simp
 have M2:ws.heap[b2]?=some (.cells #[.int .i64 p.step,.slice Ao2 no' co2,.slice Av2 nv' cv2,.slice Ac2 nc' cc2,.slice Ai2 ni' ci2] 64):=by rw[←hws,←hbb2];exact heap_alloc_last _ _
 have KB4:=hide (show Below w3.heap.size w3 ws by rw[←hws];exact (Below.refl _ _).alloc (Nat.le_refl _) _)
 have hw34:=KB4.out.size
 have M1:=(KB4.out.block b1 (by omega)).trans M13.out
 rw[hbb2]
 clear hws hbb2 M1' M13
 obtain⟨no,rfl⟩:∃z,z=no':=⟨_,rfl⟩
 obtain⟨nv,rfl⟩:∃z,z=nv':=⟨_,rfl⟩
 obtain⟨nc,rfl⟩:∃z,z=nc':=⟨_,rfl⟩
 obtain⟨ni,rfl⟩:∃z,z=ni':=⟨_,rfl⟩
 obtain⟨x0,x1,x2,x3,x4⟩:=zr5 M1
 obtain⟨y0,y1,y2,y3,y4⟩:=zr5 M2
 have hb1w:b1<ws.heap.size:=by omega
 have HI1:=hide (((HI0.out.next KB2.out).next KB3.out).next KB4.out)
 have HI2:=hide (HI3.out.next KB4.out)
 have hlens:Hid (nv≤1000000∧nc≤1000000∧ni≤1000000):=hide (by
 have h:=getP_lens bs
 rw[HP.out] at h
 have h1:=HL1.out.1
 have h2:=HL1.out.2.1
 have h3:=HL1.out.2.2.1
 have h4:=HL1.out.2.2.2
 omega)
 obtain⟨hnv,hnc,hni⟩:=hlens.out
 clear hlens
 have hk1:=hide (str_kept (c:=cap) (((hR1.out.next KB2.out).next KB3.out).next KB4.out) HL.out)
 have hk2:=hide (str_kept (c:=c) ((HRr.out.next KB3.out).next KB4.out) HL.out)
 clear M1 M2 hR1 HRb HR HRr HI0 HI3
 refine wp_region_held_drew (S:=Kept ws) (by kernel_rfl) (Kept.drew ws) (fun hS0=>?_)
 refine tka 0 25 ?_
 refine tka 1 26 ?_
 refine tka 2 27 ?_
 refine tka 3 28 ?_
 refine tka 4 29 ?_
 refine tka 6 31 ?_
 refine ck 5 30 fun K hK=>?_
 go_simp
 refine (splain_any _ p.step Ao1 Av1 Ac1 Ai1 no nv nc ni co1 cv1 cc1 ci1).mono ?_
 rintro e z1 ⟨rfl,k1⟩
 have hS1:Kept ws z1:=hS0.below (by simp) k1
 have K1:Hid (Below ws.heap.size ws z1):=hide (below_start k1)
 have s1:ws.heap.size≤z1.heap.size:=K1.out.size
 clear k1
 go_wp2_with fail
 refine hK.out _ _ hS1 (fun hSn=>?_)
 clear hK K
 try simp only[zqd,zqe,zqf]
 refine ck 7 32 fun K hK=>?_
 go_simp
 have hcall:=rssame_any z1 p Ao1 Av1 Ac1 Ai1 no nv nc ni co1 cv1 cc1 ci1 HL1.out (HI1.out.next K1.out) p Ao2 Av2 Ac2 Ai2 no nv nc ni co2 cv2 cc2 ci2 HL1.out (HI2.out.next K1.out) (by omega) (by omega) (by omega) (by omega)
 rw[sameS_selfG] at hcall
 refine hcall.mono ?_
 clear hcall
 rintro e z2 ⟨rfl,k2⟩
 have hS2:Kept ws z2:=hS1.below s1 k2
 have K2:=hide k2
 have s2:z1.heap.size≤z2.heap.size:=k2.size
 clear k2
 go_wp2_with fail
 refine hK.out _ _ hS2 (fun hSn=>?_)
 clear hK K
 try simp only[zqd,zqe,zqf]
 refine tka 8 33 ?_
 refine tka 9 34 ?_
 refine tka 10 35 ?_
 refine tk 11 36 ?_ ?_ ?_;rotate_left;(focus (intro w hSw;have hh:=hk1.out w hSw;go_simp;(try with_reducible rfl);done));(try simp only[zqd,zqe,zqf])
 refine tka 12 37 ?_
 refine tk 13 38 ?_ ?_ ?_;rotate_left;(focus (intro w hSw;have hh:=hk2.out w hSw;go_simp;(try with_reducible rfl);done));(try simp only[zqd,zqe,zqf])
 refine tka 14 39 ?_
 refine tka 15 40 ?_
 refine tka 16 41 ?_
 refine ck 17 42 fun K hK=>?_
 go_simp
 refine (works_any z2).mono ?_
 rintro e z3 ⟨rfl,k3⟩
 have hS3:Kept ws z3:=hS2.below (by omega) k3
 have K3:=hide k3
 clear k3
 go_wp2_with fail
 refine hK.out _ _ hS3 (fun hSn=>?_)
 clear hK K
 try simp only[zqd,zqe,zqf]
 refine tka 18 43 ?_
 refine tka 19 2 ?_
 refine wpAnyH_done (by kernel_rfl) ?_ _
 clear hS0 hS1 hS2 hS3 hSn x0 y0 x1 y1 x2 y2 x3 y3 x4 y4
 have HFin:Hid (Below w.heap.size w z3):=hide (by
 have a1:Below w.heap.size w w1:=HBb.out.trans (KB1.out.mono (by omega))
 have a2:Below w.heap.size w w2:=a1.trans (KB2.out.mono (by omega))
 have a3:Below w.heap.size w w3:=a2.trans (KB3.out.mono (by omega))
 have a4:Below w.heap.size w ws:=a3.trans (KB4.out.mono (by omega))
 have a5:Below w.heap.size w z1:=a4.trans (K1.out.mono (by omega))
 have a6:Below w.heap.size w z2:=a5.trans (K2.out.mono (by omega))
 exact a6.trans (K3.out.mono (by omega)))
 go_wp2
 go_ret
 exact⟨rfl,HFin.out⟩
theorem takeP_lens (st:Int) (vals:List Int) (chg:List Bool) (inb:List Ml) (n k:Int):(takeP st vals chg inb n k).vals.length=(takeP st vals chg inb n k).own.length∧(takeP st vals chg inb n k).chg.length=(takeP st vals chg inb n k).own.length∧(takeP st vals chg inb n k).inb.length=(takeP st vals chg inb n k).own.length:=by
 unfold takeP
 split <;> simp[pickP,pv,pc,pm]
theorem statesTake_go (w:World) (st sm mo:Int) (A1 A2 A3:Option Addr) (V n2 n3 c1 c2 c3:Nat) (vals:List Int) (chg:List Bool) (inb:List Ml) (n k:Int) (hv:vals.length=V) (hc:chg.length=n2) (hi:inb.length=n3)
  (r1:Rd w w.heap.size A1 (i64s vals)) (r2:Rd w w.heap.size A2 (bools chg)) (r3:Rd w w.heap.size A3 (mlFlat inb)) (bV:V≤9223372036854775807) (b2:n2≤9223372036854775807) (b3:n3≤9223372036854775807) :
  Calls Tryz.prog 8 #[.agg #[.int .i64 st,.slice A1 V c1,.slice A2 n2 c2,.slice A3 n3 c3,.int .i64 sm,.int .i64 mo],.int .i64 n,.int .i64 k] w fun e W'=>e = .returned (.bool true)∧Below w.heap.size w W':=by
 obtain⟨u,hu⟩:∃u,w.alloc (.cells #[.int .i64 st,.slice A1 V c1,.slice A2 n2 c2,.slice A3 n3 c3,.int .i64 sm,.int .i64 mo] 33)=u:=⟨_,rfl⟩
 have hzu:w.heap.size<u.heap.size:=by rw[←hu];simp
 have HBU:=hide (show Below w.heap.size w u by rw[←hu];exact (Below.refl _ _).alloc (Nat.le_refl _) _)
 have M0:=hide (show u.heap[w.heap.size]?=some (.cells #[.int .i64 st,.slice A1 V c1,.slice A2 n2 c2,.slice A3 n3 c3,.int .i64 sm,.int .i64 mo] 33) by rw[←hu];exact heap_alloc_last _ _)
 have HU:=hide hu
 have R1:=hide (r1.next HBU.out)
 have R2:=hide (r2.next HBU.out)
 have R3:=hide (r3.next HBU.out)
 have HV:=hide hv
 have HC:=hide hc
 have HI:=hide hi
 clear hu r1 r2 r3 hv hc hi
 by_cases g1:60<V
 ·have g1':(60:Int)<(V:Int):=by omega
  have N0:=M0.out
  obtain⟨x0,x1,x2,x3,x4,x5⟩:=zr6 N0
  clear N0
  go_enter Tryz.func8,Tryz.ntmps8
  go_upto_region 1 with fail
  rw[HU.out]
  go_wp2_with fail
  refine (works_any _).mono ?_
  rintro e w2 ⟨rfl,hb⟩
  have HF:=hide (HBU.out.trans (hb.mono (by omega)))
  clear hb
  go_wp2
  go_ret
  exact⟨rfl,HF.out⟩
 by_cases g2:60<n2
 ·have g1':¬(60:Int)<(V:Int):=by omega
  have g2':(60:Int)<(n2:Int):=by omega
  have N0:=M0.out
  obtain⟨x0,x1,x2,x3,x4,x5⟩:=zr6 N0
  clear N0
  go_enter Tryz.func8,Tryz.ntmps8
  go_upto_region 1 with fail
  rw[HU.out]
  go_wp2_with fail
  refine (works_any _).mono ?_
  rintro e w2 ⟨rfl,hb⟩
  have HF:=hide (HBU.out.trans (hb.mono (by omega)))
  clear hb
  go_wp2
  go_ret
  exact⟨rfl,HF.out⟩
 by_cases g3:60<n3
 ·have g1':¬(60:Int)<(V:Int):=by omega
  have g2':¬(60:Int)<(n2:Int):=by omega
  have g3':(60:Int)<(n3:Int):=by omega
  have N0:=M0.out
  obtain⟨x0,x1,x2,x3,x4,x5⟩:=zr6 N0
  clear N0
  go_enter Tryz.func8,Tryz.ntmps8
  go_upto_region 1 with fail
  rw[HU.out]
  go_wp2_with fail
  refine (works_any _).mono ?_
  rintro e w2 ⟨rfl,hb⟩
  have HF:=hide (HBU.out.trans (hb.mono (by omega)))
  clear hb
  go_wp2
  go_ret
  exact⟨rfl,HF.out⟩
 have g1':¬(60:Int)<(V:Int):=by omega
 have g2':¬(60:Int)<(n2:Int):=by omega
 have g3':¬(60:Int)<(n3:Int):=by omega
 obtain⟨p,hp⟩:∃p,takeP st vals chg inb n k=p:=⟨_,rfl⟩
 obtain⟨q,hq⟩:∃q,takeE st vals chg inb n k=q:=⟨_,rfl⟩
 have hlen:=takeP_lens st vals chg inb n k
 rw[hp] at hlen
 have HLEN:=hide hlen
 have HP:=hide hp
 have HQ:=hide hq
 clear hp hq hlen
 have N0:=M0.out
 obtain⟨x0,x1,x2,x3,x4,x5⟩:=zr6 N0
 clear N0
 go_enter Tryz.func8,Tryz.ntmps8
 go_upto_region 1 with fail
 rw[HU.out]
 go_wp2_with fail
 have hcl:=stake_any u st sm mo A1 A2 A3 V n2 n3 c1 c2 c3 vals chg inb n k (by omega) HV.out HC.out HI.out R1.out R2.out R3.out
 rw[HP.out,HQ.out] at hcl
 refine hcl.mono ?_
 clear hcl
 rintro e w1 ⟨no,nv,nc,ni,Ao1,co1,Av1,cv1,Ac1,cc1,Ai1,ci1,hsl,hno,rfl,hsi,hb1⟩
 have HL1:=hide hsl
 have HI0:=hide hsi
 have KB1:=hide hb1
 have hw1:u.heap.size≤w1.heap.size:=hb1.size
 have M01:=hide ((hb1.block _ hzu).trans M0.out)
 clear hsl hsi hb1 x0 x1 x2 x3 x4 x5
 go_upto_region 4 with fail
 obtain⟨w2,hw2⟩:∃z,w1.alloc (.cells #[.int .i64 p.step,.slice Ao1 no co1,.slice Av1 nv cv1,.slice Ac1 nc cc1,.slice Ai1 ni ci1] 42)=z:=⟨_,rfl⟩
 rw[hw2]
 obtain⟨b1,hbb1⟩:∃z,w1.heap.size=z:=⟨_,rfl⟩
 have hb1s:b1<w2.heap.size:=by rw[←hw2,←hbb1];simp
 have M1':=hide (show w2.heap[b1]?=some (.cells #[.int .i64 p.step,.slice Ao1 no co1,.slice Av1 nv cv1,.slice Ac1 nc cc1,.slice Ai1 ni ci1] 42) by rw[←hw2,←hbb1];exact heap_alloc_last _ _)
 have KB2:=hide (show Below w1.heap.size w1 w2 by rw[←hw2];exact (Below.refl _ _).alloc (Nat.le_refl _) _)
 have hw12:=KB2.out.size
 have M02:=hide ((KB2.out.block _ (by omega)).trans M01.out)
 rw[hbb1]
 have HBB1:=hide hbb1
 clear hw2 hbb1
 have N0:=M02.out
 obtain⟨x0,x1,x2,x3,x4,x5⟩:=zr6 N0
 clear N0
 go_wp2_with fail
 have hcl:=rtake14_any w2 st sm mo A1 A2 A3 V n2 n3 c1 c2 c3 vals chg inb n k (by omega) HV.out HC.out HI.out ((R1.out.next KB1.out).next KB2.out) ((R2.out.next KB1.out).next KB2.out) ((R3.out.next KB1.out).next KB2.out)
 rw[HP.out,HQ.out] at hcl
 refine hcl.mono ?_
 clear hcl
 rintro e w3 ⟨no',nv',nc',ni',Ao2,co2,Av2,cv2,Ac2,cc2,Ai2,ci2,hsl,hno',rfl,hsi,hb3⟩
 obtain rfl:no'=no:=by have:=HL1.out.1;have:=hsl.1;omega
 obtain rfl:nv'=nv:=by have:=HL1.out.2.1;have:=hsl.2.1;omega
 obtain rfl:nc'=nc:=by have:=HL1.out.2.2.1;have:=hsl.2.2.1;omega
 obtain rfl:ni'=ni:=by have:=HL1.out.2.2.2;have:=hsl.2.2.2;omega
 have HI3:=hide hsi
 have KB3:=hide hb3
 have hw3:=hb3.size
 have M13:=hide ((hb3.block b1 hb1s).trans M1'.out)
 clear hsl hsi hb3 x0 x1 x2 x3 x4 x5
 go_upto_region 5 with fail
 obtain⟨ws,hws⟩:∃z,w3.alloc (.cells #[.int .i64 p.step,.slice Ao2 no' co2,.slice Av2 nv' cv2,.slice Ac2 nc' cc2,.slice Ai2 ni' ci2] 64)=z:=⟨_,rfl⟩
 rw[hws]
 obtain⟨b2,hbb2⟩:∃z,w3.heap.size=z:=⟨_,rfl⟩
 have hb2s:b2<ws.heap.size:=by rw[←hws,←hbb2];simp
 have M2:ws.heap[b2]?=some (.cells #[.int .i64 p.step,.slice Ao2 no' co2,.slice Av2 nv' cv2,.slice Ac2 nc' cc2,.slice Ai2 ni' ci2] 64):=by rw[←hws,←hbb2];exact heap_alloc_last _ _
 have KB4:=hide (show Below w3.heap.size w3 ws by rw[←hws];exact (Below.refl _ _).alloc (Nat.le_refl _) _)
 have hw34:=KB4.out.size
 have M1:=(KB4.out.block b1 (by omega)).trans M13.out
 rw[hbb2]
 clear hws hbb2 M1' M13
 obtain⟨no,rfl⟩:∃z,z=no':=⟨_,rfl⟩
 obtain⟨nv,rfl⟩:∃z,z=nv':=⟨_,rfl⟩
 obtain⟨nc,rfl⟩:∃z,z=nc':=⟨_,rfl⟩
 obtain⟨ni,rfl⟩:∃z,z=ni':=⟨_,rfl⟩
 obtain⟨s0,s1,s2,s3,s4⟩:=zr5 M1
 obtain⟨t0,t1,t2,t3,t4⟩:=zr5 M2
 have hb1w:b1<ws.heap.size:=by omega
 have HI1:=hide (((HI0.out.next KB2.out).next KB3.out).next KB4.out)
 have HI2:=hide (HI3.out.next KB4.out)
 have hlens:Hid (nv≤1000000∧nc≤1000000∧ni≤1000000):=hide (by
  have h:=HLEN.out
  have h1:=HL1.out.1
  have h2:=HL1.out.2.1
  have h3:=HL1.out.2.2.1
  have h4:=HL1.out.2.2.2
  omega)
 obtain⟨hnv,hnc,hni⟩:=hlens.out
 clear hlens M1 M2 HI0 HI3
 refine wp_region_held_drew (S:=Kept ws) (by kernel_rfl) (Kept.drew ws) (fun hS0=>?_)
 refine tka 0 42 ?_
 refine tka 1 43 ?_
 refine tka 2 44 ?_
 refine tka 3 45 ?_
 refine tka 4 46 ?_
 refine tka 6 48 ?_
 refine ck 5 47 fun K hK=>?_
 go_simp
 refine (splain_any _ p.step Ao1 Av1 Ac1 Ai1 no nv nc ni co1 cv1 cc1 ci1).mono ?_
 rintro e z1 ⟨rfl,k1⟩
 have hS1:Kept ws z1:=hS0.below (by simp) k1
 have K1:Hid (Below ws.heap.size ws z1):=hide (below_start k1)
 have r1s:ws.heap.size≤z1.heap.size:=K1.out.size
 clear k1
 go_wp2_with fail
 refine hK.out _ _ hS1 (fun hSn=>?_)
 clear hK K
 try simp only[zqd,zqe,zqf]
 refine ck 7 49 fun K hK=>?_
 go_simp
 have hcall:=rssame_any z1 p Ao1 Av1 Ac1 Ai1 no nv nc ni co1 cv1 cc1 ci1 HL1.out (HI1.out.next K1.out) p Ao2 Av2 Ac2 Ai2 no nv nc ni co2 cv2 cc2 ci2 HL1.out (HI2.out.next K1.out) (by omega) (by omega) (by omega) (by omega)
 rw[sameS_selfG] at hcall
 refine hcall.mono ?_
 clear hcall
 rintro e z2 ⟨rfl,k2⟩
 have hS2:Kept ws z2:=hS1.below r1s k2
 have K2:=hide k2
 have r2s:z1.heap.size≤z2.heap.size:=k2.size
 clear k2
 go_wp2_with fail
 refine hK.out _ _ hS2 (fun hSn=>?_)
 clear hK K
 try simp only[zqd,zqe,zqf]
 refine tka 8 50 ?_
 refine tka 9 51 ?_
 refine ck 10 52 fun K hK=>?_
 go_simp
 refine (works_any z2).mono ?_
 rintro e z3 ⟨rfl,k3⟩
 have hS3:Kept ws z3:=hS2.below (by omega) k3
 have K3:=hide k3
 clear k3
 go_wp2_with fail
 refine hK.out _ _ hS3 (fun hSn=>?_)
 clear hK K
 try simp only[zqd,zqe,zqf]
 refine tka 11 53 ?_
 refine tka 12 6 ?_
 refine wpAnyH_done (by kernel_rfl) ?_ _
 clear hS0 hS1 hS2 hS3 hSn s0 s3 s4 t0 t1 t2 t3 t4
 have HFin:Hid (Below w.heap.size w z3):=hide (by
  have a1:Below w.heap.size w w1:=HBU.out.trans (KB1.out.mono (by omega))
  have a2:Below w.heap.size w w2:=a1.trans (KB2.out.mono (by omega))
  have a3:Below w.heap.size w w3:=a2.trans (KB3.out.mono (by omega))
  have a4:Below w.heap.size w ws:=a3.trans (KB4.out.mono (by omega))
  have a5:Below w.heap.size w z1:=a4.trans (K1.out.mono (by omega))
  have a6:Below w.heap.size w z2:=a5.trans (K2.out.mono (by omega))
  exact a6.trans (K3.out.mono (by omega)))
 go_wp2
 go_ret
 exact⟨rfl,HFin.out⟩
theorem statesBack_walk (w:World) (p:SPart) (Ao Av Ac Ai:Option Addr) (no nv nc ni co cv cc ci:Nat) (hlen:SLen p no nv nc ni) (hi:SIn w p Ao Av Ac Ai) (hb:no≤9223372036854775807∧nv≤9223372036854775807∧nc≤9223372036854775807∧ni≤9223372036854775807) (A0:Option Addr) (bs:List UInt8) (c:Nat) (hR:Rd w w.heap.size A0 (u8s bs)) (hlm:bs.length≤9223372036854775807) (cut:Int) (hcut1:-9223372036854775808≤cut) (hcut2:cut≤9223372036854775807) :
  Calls Tryz.prog 12 #[.agg #[.int .i64 p.step,.slice Ao no co,.slice Av nv cv,.slice Ac nc cc,.slice Ai ni ci],.slice A0 bs.length c,.int .i64 cut] w fun e W'=>e = .returned (.bool true)∧Below w.heap.size w W':=by
 have hlen':=hlen
 obtain⟨hbo,hbv,hbc,hbi⟩:=hb
 obtain⟨L,hL⟩:∃L,bs.length=L:=⟨_,rfl⟩
 rw[hL] at hlm ⊢
 obtain⟨u,hu⟩:∃u,w.alloc (.cells #[.int .i64 p.step,.slice Ao no co,.slice Av nv cv,.slice Ac nc cc,.slice Ai ni ci] 42)=u:=⟨_,rfl⟩
 have hzu:w.heap.size+1≤u.heap.size:=by rw[←hu];simp
 have hbu:Below w.heap.size w u:=by rw[←hu];exact (Below.refl _ _).alloc (Nat.le_refl _) _
 have hcu:u.heap[w.heap.size]?=some (.cells #[.int .i64 p.step,.slice Ao no co,.slice Av nv cv,.slice Ac nc cc,.slice Ai ni ci] 42):=by rw[←hu];exact heap_alloc_last _ _
 have E0:=hide (show u.cell? ⟨w.heap.size,0,none⟩=some (.int .i64 p.step) from cell_of_row _ _ 0 _ _ _ hcu)
 have E1:=hide (show u.cell? ⟨w.heap.size,1,none⟩=some (.slice Ao no co) from cell_of_row _ _ 1 _ _ _ hcu)
 have E2:=hide (show u.cell? ⟨w.heap.size,2,none⟩=some (.slice Av nv cv) from cell_of_row _ _ 2 _ _ _ hcu)
 have E3:=hide (show u.cell? ⟨w.heap.size,3,none⟩=some (.slice Ac nc cc) from cell_of_row _ _ 3 _ _ _ hcu)
 have E4:=hide (show u.cell? ⟨w.heap.size,4,none⟩=some (.slice Ai ni ci) from cell_of_row _ _ 4 _ _ _ hcu)
 have HI:=hide (hi.next hbu)
 have HR:=hide (hR.next hbu)
 have HLen:=hide hlen
 have HB:=hide hbu
 have HU:=hide hu
 have HL:=hide hL
 have KU:=hide (Below.refl u.heap.size u)
 clear hu hbu hcu hi hlen hR hL
 rcases hf:(decide (no≤60) && decide (nv≤60) && decide (nc≤60) && decide (ni≤60)) with _ | _
 ·have HF:=hide hf
  clear hf
  go_enter Tryz.func12,Tryz.ntmps12
  go_wp2_with fail
  rw[HU.out]
  refine (sfew_any u p.step Ao Av Ac Ai no nv nc ni co cv cc ci).mono ?_
  rintro e y1 ⟨rfl,kk⟩
  rw[HF.out]
  have KU':=hide (KU.out.trans (kk.mono KU.out.size))
  clear KU kk
  have KU:=KU'
  clear KU'
  have su:u.heap.size≤y1.heap.size:=KU.out.size
  have lw:w.heap.size<y1.heap.size:=by omega
  go_wp2_with fail
  refine (works_any _).mono ?_
  rintro e yw ⟨rfl,k2⟩
  have HFin:=hide (HB.out.trans ((KU.out.trans (k2.mono KU.out.size)).mono (by omega)))
  clear k2
  go_wp2
  go_ret
  exact⟨rfl,HFin.out⟩
 have HF:=hide hf
 have hno:no≤60:=by simp only[Bool.and_eq_true,decide_eq_true_eq] at hf;exact hf.1.1.1
 clear hf
 by_cases hl:1200<L
 ·have hl':(1200:Int)<(L:Int):=by omega
  go_enter Tryz.func12,Tryz.ntmps12
  go_wp2_with fail
  rw[HU.out]
  refine (sfew_any u p.step Ao Av Ac Ai no nv nc ni co cv cc ci).mono ?_
  rintro e y1 ⟨rfl,kk⟩
  rw[HF.out]
  have KU':=hide (KU.out.trans (kk.mono KU.out.size))
  clear KU kk
  have KU:=KU'
  clear KU'
  have su:u.heap.size≤y1.heap.size:=KU.out.size
  have lw:w.heap.size<y1.heap.size:=by omega
  go_wp2_with fail
  refine (works_any _).mono ?_
  rintro e yw ⟨rfl,k2⟩
  have HFin:=hide (HB.out.trans ((KU.out.trans (k2.mono KU.out.size)).mono (by omega)))
  clear k2
  go_wp2
  go_ret
  exact⟨rfl,HFin.out⟩
 have hl':(L:Int)≤1200:=by omega
 rcases hr:rightB p with _ | _
 ·have HRt:=hide hr
  clear hr
  go_enter Tryz.func12,Tryz.ntmps12
  go_wp2_with fail
  rw[HU.out]
  refine (sfew_any u p.step Ao Av Ac Ai no nv nc ni co cv cc ci).mono ?_
  rintro e y1 ⟨rfl,kk⟩
  rw[HF.out]
  have KU':=hide (KU.out.trans (kk.mono KU.out.size))
  clear KU kk
  have KU:=KU'
  clear KU'
  have su:u.heap.size≤y1.heap.size:=KU.out.size
  have lw:w.heap.size<y1.heap.size:=by omega
  have x0:y1.cell? ⟨w.heap.size,0,none⟩=some (.int .i64 p.step):=(KU.out.cell (p:=⟨w.heap.size,0,none⟩) (by show w.heap.size<_;omega)).trans E0.out
  have x1:y1.cell? ⟨w.heap.size,1,none⟩=some (.slice Ao no co):=(KU.out.cell (p:=⟨w.heap.size,1,none⟩) (by show w.heap.size<_;omega)).trans E1.out
  have x2:y1.cell? ⟨w.heap.size,2,none⟩=some (.slice Av nv cv):=(KU.out.cell (p:=⟨w.heap.size,2,none⟩) (by show w.heap.size<_;omega)).trans E2.out
  have x3:y1.cell? ⟨w.heap.size,3,none⟩=some (.slice Ac nc cc):=(KU.out.cell (p:=⟨w.heap.size,3,none⟩) (by show w.heap.size<_;omega)).trans E3.out
  have x4:y1.cell? ⟨w.heap.size,4,none⟩=some (.slice Ai ni ci):=(KU.out.cell (p:=⟨w.heap.size,4,none⟩) (by show w.heap.size<_;omega)).trans E4.out
  have HIc:=hide (HI.out.next KU.out)
  have hcall:=sput_any y1 p Ao Av Ac Ai no nv nc ni co cv cc ci HLen.out (by omega) HIc.out
  rw[show putOut p=[] by simp[putOut,HRt.out],show putCode p=4 by simp[putCode,HRt.out]] at hcall
  have HC:=hide hcall
  clear hcall HIc
  go_wp2_with fail
  refine HC.out.mono ?_
  clear HC
  rintro e y2 ⟨A1,c1,n1,hn1,rfl,hr1,hc1,hm1,kk⟩
  clear x0 x1 x2 x3 x4
  have R1:=hide hr1
  have HN1:=hide hn1
  clear hr1 hn1 su lw
  have ky2:=hide kk
  have KU':=hide (KU.out.trans (kk.mono KU.out.size))
  clear KU kk
  have KU:=KU'
  clear KU'
  have su:u.heap.size≤y2.heap.size:=KU.out.size
  have lw:w.heap.size<y2.heap.size:=by omega
  clear ky2 R1 HN1 su
  go_upto_region 9 with fail
  obtain⟨z0,rfl⟩:∃z:World,z=y2:=⟨_,rfl⟩
  have HRz:=hide (HR.out.next KU.out)
  have lw0:w.heap.size<z0.heap.size:=by omega
  rcases hg:getF bs with _ | q
  ·have HG:=hide hg
   clear hg
   have hcall:=sget_any z0 A0 bs L c HL.out HRz.out (by omega)
   rw[show getP bs=noP by simp[getP,HG.out,noP],show getE bs=140 by simp[getE,HG.out]] at hcall
   go_wp2_with fail
   refine hcall.mono ?_
   clear hcall
   rintro e z1 ⟨mo,mv,mc,mi,Bo,do',Bv,dv,Bc,dc,Bi,di,hsl,hmo,rfl,hsi,kk⟩
   have HQI:=hide hsi
   have HQL:=hide hsl
   clear hsi hsl
   have KU':=hide (KU.out.trans (kk.mono KU.out.size))
   clear KU kk
   have KU:=KU'
   clear KU'
   have su:u.heap.size≤z1.heap.size:=KU.out.size
   have lw:w.heap.size<z1.heap.size:=by omega
   clear su lw
   go_upto_region 10 with fail
   (try dsimp only [noP])
   obtain⟨z2,hnew⟩:∃z,z1.alloc (.cells #[.int .i64 0,.slice Bo mo do',.slice Bv mv dv,.slice Bc mc dc,.slice Bi mi di] 42)=z:=⟨_,rfl⟩
   rw[hnew]
   have kk:Below z1.heap.size z1 z2:=by rw[←hnew];exact (Below.refl _ _).alloc (Nat.le_refl _) _
   have hlast:z2.heap[z1.heap.size]?=some (.cells #[.int .i64 0,.slice Bo mo do',.slice Bv mv dv,.slice Bc mc dc,.slice Bi mi di] 42):=by rw[←hnew];exact heap_alloc_last _ _
   have hsz2:z1.heap.size<z2.heap.size:=by rw[←hnew];simp
   clear hnew hlast
   have KU':=hide (KU.out.trans (kk.mono KU.out.size))
   clear KU kk
   have KU:=KU'
   clear KU'
   have su:u.heap.size≤z2.heap.size:=KU.out.size
   have lw:w.heap.size<z2.heap.size:=by omega
   go_wp2_with fail
   refine (works_any _).mono ?_
   rintro e yw ⟨rfl,k2⟩
   have HFin:=hide (HB.out.trans ((KU.out.trans (k2.mono KU.out.size)).mono (by omega)))
   clear k2
   go_wp2
   go_ret
   exact⟨rfl,HFin.out⟩
  have hpg:=putB_get hg
  have hown:=get_own hg
  rw[HL.out] at hown
  have HG:=hide hg
  clear hg
  have hcall:=sget_any z0 A0 bs L c HL.out HRz.out (by omega)
  rw[show getP bs=q by simp[getP,HG.out,noP],show getE bs=0 by simp[getE,HG.out]] at hcall
  go_wp2_with fail
  refine hcall.mono ?_
  clear hcall
  rintro e z1 ⟨mo,mv,mc,mi,Bo,do',Bv,dv,Bc,dc,Bi,di,hsl,hmo,rfl,hsi,kk⟩
  have HQI:=hide hsi
  have HQL:=hide hsl
  clear hsi hsl
  have KU':=hide (KU.out.trans (kk.mono KU.out.size))
  clear KU kk
  have KU:=KU'
  clear KU'
  have su:u.heap.size≤z1.heap.size:=KU.out.size
  have lw:w.heap.size<z1.heap.size:=by omega
  clear su lw
  have hmo2:mo≤2000:=by have:=HQL.out.1;omega
  go_upto_region 10 with fail
  obtain⟨z2,hnew⟩:∃z,z1.alloc (.cells #[.int .i64 q.step,.slice Bo mo do',.slice Bv mv dv,.slice Bc mc dc,.slice Bi mi di] 42)=z:=⟨_,rfl⟩
  rw[hnew]
  have kk:Below z1.heap.size z1 z2:=by rw[←hnew];exact (Below.refl _ _).alloc (Nat.le_refl _) _
  have hlast:z2.heap[z1.heap.size]?=some (.cells #[.int .i64 q.step,.slice Bo mo do',.slice Bv mv dv,.slice Bc mc dc,.slice Bi mi di] 42):=by rw[←hnew];exact heap_alloc_last _ _
  have hsz2:z1.heap.size<z2.heap.size:=by rw[←hnew];simp
  have HQ2:=hide (HQI.out.next kk)
  obtain⟨w0,w1,w2,w3,w4⟩:=zr5 hlast
  clear hnew hlast
  have KU':=hide (KU.out.trans (kk.mono KU.out.size))
  clear KU kk
  have KU:=KU'
  clear KU'
  have su:u.heap.size≤z2.heap.size:=KU.out.size
  have lw:w.heap.size<z2.heap.size:=by omega
  have hcall:=sput_any z2 q Bo Bv Bc Bi mo mv mc mi do' dv dc di HQL.out hmo2 HQ2.out
  rw[show putOut q=bs by simp[putOut,hpg.1,hpg.2.1],show putCode q=0 by simp[putCode,hpg.2.1]] at hcall
  have HC:=hide hcall
  clear hcall hpg
  go_wp2_with fail
  refine HC.out.mono ?_
  clear HC w0 w1 w2 w3 w4
  rintro e z3 ⟨A1,c1,n1,hn1,rfl,hr1,hc1,hm1,kk⟩
  clear su lw
  have KU':=hide (KU.out.trans (kk.mono KU.out.size))
  clear KU kk
  have KU:=KU'
  clear KU'
  have su:u.heap.size≤z3.heap.size:=KU.out.size
  have lw:w.heap.size<z3.heap.size:=by omega
  obtain rfl:n1=L:=by have:=HL.out;omega
  have k1:=str_kept (c:=c1) hr1 hn1 _ (Kept.refl _)
  have k2:=str_kept (c:=c) (HR.out.next KU.out) HL.out _ (Kept.refl _)
  clear hr1 hn1
  go_wp2_with fail
  refine (works_any _).mono ?_
  rintro e yw ⟨rfl,k2⟩
  have HFin:=hide (HB.out.trans ((KU.out.trans (k2.mono KU.out.size)).mono (by omega)))
  clear k2
  go_wp2
  go_ret
  exact⟨rfl,HFin.out⟩
 have hgp:=getF_put hr (by rw[hlen'.1];exact hno)
 have HRt:=hide hr
 have HGP:=hide hgp
 clear hr hgp
 go_enter Tryz.func12,Tryz.ntmps12
 go_wp2_with fail
 rw[HU.out]
 refine (sfew_any u p.step Ao Av Ac Ai no nv nc ni co cv cc ci).mono ?_
 rintro e y1 ⟨rfl,kk⟩
 rw[HF.out]
 have KU':=hide (KU.out.trans (kk.mono KU.out.size))
 clear KU kk
 have KU:=KU'
 clear KU'
 have su:u.heap.size≤y1.heap.size:=KU.out.size
 have lw:w.heap.size<y1.heap.size:=by omega
 have x0:y1.cell? ⟨w.heap.size,0,none⟩=some (.int .i64 p.step):=(KU.out.cell (p:=⟨w.heap.size,0,none⟩) (by show w.heap.size<_;omega)).trans E0.out
 have x1:y1.cell? ⟨w.heap.size,1,none⟩=some (.slice Ao no co):=(KU.out.cell (p:=⟨w.heap.size,1,none⟩) (by show w.heap.size<_;omega)).trans E1.out
 have x2:y1.cell? ⟨w.heap.size,2,none⟩=some (.slice Av nv cv):=(KU.out.cell (p:=⟨w.heap.size,2,none⟩) (by show w.heap.size<_;omega)).trans E2.out
 have x3:y1.cell? ⟨w.heap.size,3,none⟩=some (.slice Ac nc cc):=(KU.out.cell (p:=⟨w.heap.size,3,none⟩) (by show w.heap.size<_;omega)).trans E3.out
 have x4:y1.cell? ⟨w.heap.size,4,none⟩=some (.slice Ai ni ci):=(KU.out.cell (p:=⟨w.heap.size,4,none⟩) (by show w.heap.size<_;omega)).trans E4.out
 have HIc:=hide (HI.out.next KU.out)
 have hcall:=sput_any y1 p Ao Av Ac Ai no nv nc ni co cv cc ci HLen.out (by omega) HIc.out
 rw[show putOut p=putB p by simp[putOut,HRt.out],show putCode p=0 by simp[putCode,HRt.out]] at hcall
 have HC:=hide hcall
 clear hcall HIc
 go_wp2_with fail
 refine HC.out.mono ?_
 clear HC
 rintro e y2 ⟨A1,c1,n1,hn1,rfl,hr1,hc1,hm1,kk⟩
 clear x0 x1 x2 x3 x4
 have R1:=hide hr1
 have HN1:=hide hn1
 clear hr1 hn1 su lw
 have ky2:=hide kk
 have KU':=hide (KU.out.trans (kk.mono KU.out.size))
 clear KU kk
 have KU:=KU'
 clear KU'
 have su:u.heap.size≤y2.heap.size:=KU.out.size
 have lw:w.heap.size<y2.heap.size:=by omega
 have hn6:6≤n1:=by rw[←HN1.out];exact put_long p
 have hn7:n1≤1200:=by have h1:=putB_len p;rw[HN1.out,HLen.out.1] at h1;omega
 have hcall:=sget_any y2 A1 (putB p) n1 c1 HN1.out R1.out (by omega)
 rw[show getP (putB p)=nmS p by simp[getP,HGP.out],show getE (putB p)=0 by simp[getE,HGP.out]] at hcall
 have HC:=hide hcall
 clear hcall su lw
 go_wp2_with fail
 refine HC.out.mono ?_
 clear HC
 rintro e y3 ⟨mo,mv,mc,mi,Bo,do',Bv,dv,Bc,dc,Bi,di,hsl,hmo,rfl,hsi,kk⟩
 have HQI:=hide hsi
 have HQL:=hide hsl
 clear hsi hsl
 have R3:=hide (R1.out.next kk)
 clear R1 ky2
 have KU':=hide (KU.out.trans (kk.mono KU.out.size))
 clear KU kk
 have KU:=KU'
 clear KU'
 have su:u.heap.size≤y3.heap.size:=KU.out.size
 have lw:w.heap.size<y3.heap.size:=by omega
 go_upto_region 6 with fail
 dsimp only [nmS]
 clear su lw
 obtain⟨y4,hnew⟩:∃z,y3.alloc (.cells #[.int .i64 p.step,.slice Bo mo do',.slice Bv mv dv,.slice Bc mc dc,.slice Bi mi di] 42)=z:=⟨_,rfl⟩
 rw[hnew]
 have kk:Below y3.heap.size y3 y4:=by rw[←hnew];exact (Below.refl _ _).alloc (Nat.le_refl _) _
 have hlast:y4.heap[y3.heap.size]?=some (.cells #[.int .i64 p.step,.slice Bo mo do',.slice Bv mv dv,.slice Bc mc dc,.slice Bi mi di] 42):=by rw[←hnew];exact heap_alloc_last _ _
 have hsz2:y3.heap.size<y4.heap.size:=by rw[←hnew];simp
 have HQ4:=hide (HQI.out.next kk)
 have R4:=hide (R3.out.next kk)
 have M4:=hide hlast
 have hb4:y3.heap.size<y4.heap.size:=hsz2
 clear hnew hlast HQI R3
 have KU':=hide (KU.out.trans (kk.mono KU.out.size))
 clear KU kk
 have KU:=KU'
 clear KU'
 have su:u.heap.size≤y4.heap.size:=KU.out.size
 have lw:w.heap.size<y4.heap.size:=by omega
 have hpk:=pick_rng cut n1 (by omega)
 obtain⟨k,hk⟩:∃k:Nat,pickOf cut n1=(k:Int):=⟨(pickOf cut n1).toNat,by omega⟩
 rw[hk] at hpk
 have HK:=hide hk
 clear hk
 have hkn:k<n1:=by omega
 have hcut:=getF_begin HGP.out k (by rw[HN1.out];exact hkn)
 have HCut:=hide hcut
 clear hcut hpk
 go_wp2_with fail
 refine (pick_any y4 cut n1 hcut1 hcut2 (by omega) (by omega)).mono ?_
 rintro e y5 ⟨rfl,rfl⟩
 rw[HK.out]
 have hcall:=sget_any y5 A1 ((putB p).take k) k c1 (by rw[List.length_take,HN1.out];omega) (rd_first R4.out k) (by omega)
 rw[show getP ((putB p).take k)=noP by simp[getP,HCut.out],show getE ((putB p).take k)=140 by simp[getE,HCut.out]] at hcall
 have HC:=hide hcall
 clear hcall su lw
 have hkc:k≤c1:=by omega
 go_wp2_with fail
 refine HC.out.mono ?_
 clear HC
 rintro e y6 ⟨no2,nv2,nc2,ni2,Co,eo,Cv,ev,Cc,ec,Ci,ei,hsl,hno2,rfl,hsi,kk⟩
 clear hsl hsi
 have HQ6:=hide (HQ4.out.next kk)
 have hb6:=Nat.lt_of_lt_of_le hb4 kk.size
 have M6:=hide ((kk.block _ hb4).trans M4.out)
 clear HQ4 M4 hb4 R4
 have KU':=hide (KU.out.trans (kk.mono KU.out.size))
 clear KU kk
 have KU:=KU'
 clear KU'
 have su:u.heap.size≤y6.heap.size:=KU.out.size
 have lw:w.heap.size<y6.heap.size:=by omega
 go_upto_region 7 with fail
 dsimp only [noP]
 clear su lw
 obtain⟨y7,hnew⟩:∃z,y6.alloc (.cells #[.int .i64 0,.slice Co no2 eo,.slice Cv nv2 ev,.slice Cc nc2 ec,.slice Ci ni2 ei] 42)=z:=⟨_,rfl⟩
 rw[hnew]
 have kk:Below y6.heap.size y6 y7:=by rw[←hnew];exact (Below.refl _ _).alloc (Nat.le_refl _) _
 have hlast:y7.heap[y6.heap.size]?=some (.cells #[.int .i64 0,.slice Co no2 eo,.slice Cv nv2 ev,.slice Cc nc2 ec,.slice Ci ni2 ei] 42):=by rw[←hnew];exact heap_alloc_last _ _
 have hsz2:y6.heap.size<y7.heap.size:=by rw[←hnew];simp
 have HQ7:=hide (HQ6.out.next kk)
 have hb7:=Nat.lt_of_lt_of_le hb6 kk.size
 have M7:=(kk.block _ hb6).trans M6.out
 clear hnew hlast HQ6 M6 hb6
 have KU':=hide (KU.out.trans (kk.mono KU.out.size))
 clear KU kk
 have KU:=KU'
 clear KU'
 have su:u.heap.size≤y7.heap.size:=KU.out.size
 have lw:w.heap.size<y7.heap.size:=by omega
 have x0:y7.cell? ⟨w.heap.size,0,none⟩=some (.int .i64 p.step):=(KU.out.cell (p:=⟨w.heap.size,0,none⟩) (by show w.heap.size<_;omega)).trans E0.out
 have x1:y7.cell? ⟨w.heap.size,1,none⟩=some (.slice Ao no co):=(KU.out.cell (p:=⟨w.heap.size,1,none⟩) (by show w.heap.size<_;omega)).trans E1.out
 have x2:y7.cell? ⟨w.heap.size,2,none⟩=some (.slice Av nv cv):=(KU.out.cell (p:=⟨w.heap.size,2,none⟩) (by show w.heap.size<_;omega)).trans E2.out
 have x3:y7.cell? ⟨w.heap.size,3,none⟩=some (.slice Ac nc cc):=(KU.out.cell (p:=⟨w.heap.size,3,none⟩) (by show w.heap.size<_;omega)).trans E3.out
 have x4:y7.cell? ⟨w.heap.size,4,none⟩=some (.slice Ai ni ci):=(KU.out.cell (p:=⟨w.heap.size,4,none⟩) (by show w.heap.size<_;omega)).trans E4.out
 obtain⟨v0,v1,v2,v3,v4⟩:=zr5 M7
 have HIc:=hide (HI.out.next KU.out)
 have hcall:=ssame_any y7 (nmS p) Bo Bv Bc Bi mo mv mc mi do' dv dc di HQL.out HQ7.out p Ao Av Ac Ai no nv nc ni co cv cc ci HLen.out HIc.out (by omega) (by have:=HQL.out.2.1;have:=HLen.out.2.1;simp[nmS] at *;omega) (by have:=HQL.out.2.2.1;have:=HLen.out.2.2.1;simp[nmS] at *;omega) (by have:=HQL.out.2.2.2;have:=HLen.out.2.2.2;simp[nmS] at *;omega)
 rw[sameS_nm] at hcall
 dsimp only [nmS] at hcall
 have HC:=hide hcall
 clear hcall
 go_wp2_with fail
 refine HC.out.mono ?_
 clear HC v0 v1 v2 v3 v4 x0 x1 x2 x3 x4
 rintro e y8 ⟨rfl,kk⟩
 clear HQ7 M7 hb7 su lw
 have KU':=hide (KU.out.trans (kk.mono KU.out.size))
 clear KU kk
 have KU:=KU'
 clear KU'
 have su:u.heap.size≤y8.heap.size:=KU.out.size
 have lw:w.heap.size<y8.heap.size:=by omega
 go_upto_region 9 with fail
 obtain⟨z0,rfl⟩:∃z:World,z=y8:=⟨_,rfl⟩
 have HRz:=hide (HR.out.next KU.out)
 have lw0:w.heap.size<z0.heap.size:=by omega
 rcases hg:getF bs with _ | q
 ·have HG:=hide hg
  clear hg
  have hcall:=sget_any z0 A0 bs L c HL.out HRz.out (by omega)
  rw[show getP bs=noP by simp[getP,HG.out,noP],show getE bs=140 by simp[getE,HG.out]] at hcall
  go_wp2_with fail
  refine hcall.mono ?_
  clear hcall
  rintro e z1 ⟨mo,mv,mc,mi,Bo,do',Bv,dv,Bc,dc,Bi,di,hsl,hmo,rfl,hsi,kk⟩
  have HQI:=hide hsi
  have HQL:=hide hsl
  clear hsi hsl
  have KU':=hide (KU.out.trans (kk.mono KU.out.size))
  clear KU kk
  have KU:=KU'
  clear KU'
  have su:u.heap.size≤z1.heap.size:=KU.out.size
  have lw:w.heap.size<z1.heap.size:=by omega
  clear su lw
  go_upto_region 10 with fail
  (try dsimp only [noP])
  obtain⟨z2,hnew⟩:∃z,z1.alloc (.cells #[.int .i64 0,.slice Bo mo do',.slice Bv mv dv,.slice Bc mc dc,.slice Bi mi di] 42)=z:=⟨_,rfl⟩
  rw[hnew]
  have kk:Below z1.heap.size z1 z2:=by rw[←hnew];exact (Below.refl _ _).alloc (Nat.le_refl _) _
  have hlast:z2.heap[z1.heap.size]?=some (.cells #[.int .i64 0,.slice Bo mo do',.slice Bv mv dv,.slice Bc mc dc,.slice Bi mi di] 42):=by rw[←hnew];exact heap_alloc_last _ _
  have hsz2:z1.heap.size<z2.heap.size:=by rw[←hnew];simp
  clear hnew hlast
  have KU':=hide (KU.out.trans (kk.mono KU.out.size))
  clear KU kk
  have KU:=KU'
  clear KU'
  have su:u.heap.size≤z2.heap.size:=KU.out.size
  have lw:w.heap.size<z2.heap.size:=by omega
  go_wp2_with fail
  refine (works_any _).mono ?_
  rintro e yw ⟨rfl,k2⟩
  have HFin:=hide (HB.out.trans ((KU.out.trans (k2.mono KU.out.size)).mono (by omega)))
  clear k2
  go_wp2
  go_ret
  exact⟨rfl,HFin.out⟩
 have hpg:=putB_get hg
 have hown:=get_own hg
 rw[HL.out] at hown
 have HG:=hide hg
 clear hg
 have hcall:=sget_any z0 A0 bs L c HL.out HRz.out (by omega)
 rw[show getP bs=q by simp[getP,HG.out,noP],show getE bs=0 by simp[getE,HG.out]] at hcall
 go_wp2_with fail
 refine hcall.mono ?_
 clear hcall
 rintro e z1 ⟨mo,mv,mc,mi,Bo,do',Bv,dv,Bc,dc,Bi,di,hsl,hmo,rfl,hsi,kk⟩
 have HQI:=hide hsi
 have HQL:=hide hsl
 clear hsi hsl
 have KU':=hide (KU.out.trans (kk.mono KU.out.size))
 clear KU kk
 have KU:=KU'
 clear KU'
 have su:u.heap.size≤z1.heap.size:=KU.out.size
 have lw:w.heap.size<z1.heap.size:=by omega
 clear su lw
 have hmo2:mo≤2000:=by have:=HQL.out.1;omega
 go_upto_region 10 with fail
 obtain⟨z2,hnew⟩:∃z,z1.alloc (.cells #[.int .i64 q.step,.slice Bo mo do',.slice Bv mv dv,.slice Bc mc dc,.slice Bi mi di] 42)=z:=⟨_,rfl⟩
 rw[hnew]
 have kk:Below z1.heap.size z1 z2:=by rw[←hnew];exact (Below.refl _ _).alloc (Nat.le_refl _) _
 have hlast:z2.heap[z1.heap.size]?=some (.cells #[.int .i64 q.step,.slice Bo mo do',.slice Bv mv dv,.slice Bc mc dc,.slice Bi mi di] 42):=by rw[←hnew];exact heap_alloc_last _ _
 have hsz2:z1.heap.size<z2.heap.size:=by rw[←hnew];simp
 have HQ2:=hide (HQI.out.next kk)
 obtain⟨w0,w1,w2,w3,w4⟩:=zr5 hlast
 clear hnew hlast
 have KU':=hide (KU.out.trans (kk.mono KU.out.size))
 clear KU kk
 have KU:=KU'
 clear KU'
 have su:u.heap.size≤z2.heap.size:=KU.out.size
 have lw:w.heap.size<z2.heap.size:=by omega
 have hcall:=sput_any z2 q Bo Bv Bc Bi mo mv mc mi do' dv dc di HQL.out hmo2 HQ2.out
 rw[show putOut q=bs by simp[putOut,hpg.1,hpg.2.1],show putCode q=0 by simp[putCode,hpg.2.1]] at hcall
 have HC:=hide hcall
 clear hcall hpg
 go_wp2_with fail
 refine HC.out.mono ?_
 clear HC w0 w1 w2 w3 w4
 rintro e z3 ⟨A1,c1,n1,hn1,rfl,hr1,hc1,hm1,kk⟩
 clear su lw
 have KU':=hide (KU.out.trans (kk.mono KU.out.size))
 clear KU kk
 have KU:=KU'
 clear KU'
 have su:u.heap.size≤z3.heap.size:=KU.out.size
 have lw:w.heap.size<z3.heap.size:=by omega
 obtain rfl:n1=L:=by have:=HL.out;omega
 have k1:=str_kept (c:=c1) hr1 hn1 _ (Kept.refl _)
 have k2:=str_kept (c:=c) (HR.out.next KU.out) HL.out _ (Kept.refl _)
 clear hr1 hn1
 go_wp2_with fail
 refine (works_any _).mono ?_
 rintro e yw ⟨rfl,k2⟩
 have HFin:=hide (HB.out.trans ((KU.out.trans (k2.mono KU.out.size)).mono (by omega)))
 clear k2
 go_wp2
 go_ret
 exact⟨rfl,HFin.out⟩
end Go.Proofs.YtpojjmbalgmcoaaGreat

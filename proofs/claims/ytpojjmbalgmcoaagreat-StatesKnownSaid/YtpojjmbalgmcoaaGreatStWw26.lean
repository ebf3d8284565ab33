/- Lemmas: Spw, Swp, Sww, Ktc. -/
import Derived.Deep.CutBlock
import Derived.Test.YtpojjmbalgmcoaaGreatProg
import Derived.Lib.Hide
import Derived.WalkSpells
import Derived.WalkMore
import Derived.IntWalk
import Derived.Test.YtpojjmbalgmcoaaGreatStWw23
import Derived.Test.YtpojjmbalgmcoaaGreatStWw25
set_option linter.unusedVariables false
set_option linter.unusedSimpArgs false
set_option maxRecDepth 100000
set_option maxHeartbeats 16000000
namespace Go.Proofs.YtpojjmbalgmcoaaGreat
open Go.ChangeShapes Go.WideShapes Go.ChangeAt Go.RowKit
theorem str_kept {v:World} {A:Option Addr} {bs:List UInt8} {n c:Nat} (h:Rd v v.heap.size A (u8s bs)) (hn:bs.length=n):∀w,Kept v w→(convert 45 9 (.slice A n c)).run Tryz.prog w = .ok (.string ⟨bs.toArray⟩) w:=by
 subst hn
 intro w hk
 exact run_string_of w 45 9 5 A c _ bs Tryz.underlying45 Tryz.underlying5 Tryz.underlying9 (h.keep hk)
theorem statesPut_walk (w:World) (p:SPart) (Ao Av Ac Ai:Option Addr) (no nv nc ni co cv cc ci:Nat) (hlen:SLen p no nv nc ni) (hi:SIn w p Ao Av Ac Ai) (hb:no≤9223372036854775807∧nv≤9223372036854775807∧nc≤9223372036854775807∧ni≤9223372036854775807) :
  Calls Tryz.prog 13 #[.agg #[.int .i64 p.step,.slice Ao no co,.slice Av nv cv,.slice Ac nc cc,.slice Ai ni ci]] w fun e W'=>e = .returned (.bool true)∧Below w.heap.size w W':=by
 obtain⟨hbo,hbv,hbc,hbi⟩:=hb
 obtain⟨u,hu⟩:∃u,w.alloc (.cells #[.int .i64 p.step,.slice Ao no co,.slice Av nv cv,.slice Ac nc cc,.slice Ai ni ci] 42)=u:=⟨_,rfl⟩
 have hzu:w.heap.size+1≤u.heap.size:=by rw[←hu];simp
 have hbu:Below w.heap.size w u:=by rw[←hu];exact (Below.refl _ _).alloc (Nat.le_refl _) _
 have hcu:u.heap[w.heap.size]?=some (.cells #[.int .i64 p.step,.slice Ao no co,.slice Av nv cv,.slice Ac nc cc,.slice Ai ni ci] 42):=by rw[←hu];exact heap_alloc_last _ _
 have E0:=hide (show u.cell? ⟨w.heap.size,0,none⟩=some (.int .i64 p.step) from cell_of_row _ _ 0 _ _ _ hcu)
 have E1:=hide (show u.cell? ⟨w.heap.size,1,none⟩=some (.slice Ao no co) from cell_of_row _ _ 1 _ _ _ hcu)
 have E2:=hide (show u.cell? ⟨w.heap.size,2,none⟩=some (.slice Av nv cv) from cell_of_row _ _ 2 _ _ _ hcu)
 have E3:=hide (show u.cell? ⟨w.heap.size,3,none⟩=some (.slice Ac nc cc) from cell_of_row _ _ 3 _ _ _ hcu)
 have E4:=hide (show u.cell? ⟨w.heap.size,4,none⟩=some (.slice Ai ni ci) from cell_of_row _ _ 4 _ _ _ hcu)
 have HI:=hide (hi.next hbu)
 have HLen:=hide hlen
 have HB:=hide hbu
 have HU:=hide hu
 have KU:=hide (Below.refl u.heap.size u)
 clear hu hbu hcu hi hlen
 rcases hf:(decide (no≤60) && decide (nv≤60) && decide (nc≤60) && decide (ni≤60)) with _ | _
 ·have HF:=hide hf
  clear hf
  go_enter Tryz.func13,Tryz.ntmps13
  go_wp2_with fail
  rw[HU.out]
  refine (sfew_any u p.step Ao Av Ac Ai no nv nc ni co cv cc ci).mono ?_
  rintro e y1 ⟨rfl,kk⟩
  rw[HF.out]
  have KU':=hide (KU.out.trans (kk.mono KU.out.size))
  clear KU kk
  have KU:=KU'
  clear KU'
  have HIc:=hide (HI.out.next KU.out)
  have su:u.heap.size≤y1.heap.size:=KU.out.size
  have lw:w.heap.size<y1.heap.size:=by omega
  go_wp2_with fail
  refine (works_any _).mono ?_
  rintro e y2 ⟨rfl,k2⟩
  have HFin:=hide (HB.out.trans ((KU.out.trans (k2.mono KU.out.size)).mono (by omega)))
  clear k2
  go_wp2
  go_ret
  exact⟨rfl,HFin.out⟩
 have HF:=hide hf
 have hno:no≤60:=by simp only[Bool.and_eq_true,decide_eq_true_eq] at hf;exact hf.1.1.1
 clear hf
 obtain⟨q,hq⟩:∃q,rightB p=q:=⟨_,rfl⟩
 have HQ:=hide hq
 clear hq
 go_enter Tryz.func13,Tryz.ntmps13
 go_wp2_with fail
 rw[HU.out]
 refine (sfew_any u p.step Ao Av Ac Ai no nv nc ni co cv cc ci).mono ?_
 rintro e y1 ⟨rfl,kk⟩
 rw[HF.out]
 have KU':=hide (KU.out.trans (kk.mono KU.out.size))
 clear KU kk
 have KU:=KU'
 clear KU'
 have HIc:=hide (HI.out.next KU.out)
 have su:u.heap.size≤y1.heap.size:=KU.out.size
 have lw:w.heap.size<y1.heap.size:=by omega
 have x0:y1.cell? ⟨w.heap.size,0,none⟩=some (.int .i64 p.step):=(KU.out.cell (p:=⟨w.heap.size,0,none⟩) (by show w.heap.size<_;omega)).trans E0.out
 have x1:y1.cell? ⟨w.heap.size,1,none⟩=some (.slice Ao no co):=(KU.out.cell (p:=⟨w.heap.size,1,none⟩) (by show w.heap.size<_;omega)).trans E1.out
 have x2:y1.cell? ⟨w.heap.size,2,none⟩=some (.slice Av nv cv):=(KU.out.cell (p:=⟨w.heap.size,2,none⟩) (by show w.heap.size<_;omega)).trans E2.out
 have x3:y1.cell? ⟨w.heap.size,3,none⟩=some (.slice Ac nc cc):=(KU.out.cell (p:=⟨w.heap.size,3,none⟩) (by show w.heap.size<_;omega)).trans E3.out
 have x4:y1.cell? ⟨w.heap.size,4,none⟩=some (.slice Ai ni ci):=(KU.out.cell (p:=⟨w.heap.size,4,none⟩) (by show w.heap.size<_;omega)).trans E4.out
 go_wp2_with fail
 refine (sput_any y1 p Ao Av Ac Ai no nv nc ni co cv cc ci HLen.out (by omega) HIc.out).mono ?_
 rintro e y2 ⟨A1,c1,n1,hn1,rfl,hr1,hc1,hm1,kk⟩
 have R1:=hide hr1
 have HN1:=hide hn1
 clear x0 x1 x2 x3 x4
 clear hr1 hn1 HIc su lw
 have ky2:=hide kk
 have KU':=hide (KU.out.trans (kk.mono KU.out.size))
 clear KU kk
 have KU:=KU'
 clear KU'
 have HIc:=hide (HI.out.next KU.out)
 have su:u.heap.size≤y2.heap.size:=KU.out.size
 have lw:w.heap.size<y2.heap.size:=by omega
 have x0:y2.cell? ⟨w.heap.size,0,none⟩=some (.int .i64 p.step):=(KU.out.cell (p:=⟨w.heap.size,0,none⟩) (by show w.heap.size<_;omega)).trans E0.out
 have x1:y2.cell? ⟨w.heap.size,1,none⟩=some (.slice Ao no co):=(KU.out.cell (p:=⟨w.heap.size,1,none⟩) (by show w.heap.size<_;omega)).trans E1.out
 have x2:y2.cell? ⟨w.heap.size,2,none⟩=some (.slice Av nv cv):=(KU.out.cell (p:=⟨w.heap.size,2,none⟩) (by show w.heap.size<_;omega)).trans E2.out
 have x3:y2.cell? ⟨w.heap.size,3,none⟩=some (.slice Ac nc cc):=(KU.out.cell (p:=⟨w.heap.size,3,none⟩) (by show w.heap.size<_;omega)).trans E3.out
 have x4:y2.cell? ⟨w.heap.size,4,none⟩=some (.slice Ai ni ci):=(KU.out.cell (p:=⟨w.heap.size,4,none⟩) (by show w.heap.size<_;omega)).trans E4.out
 go_wp2_with fail
 refine (splain_any y2 p.step Ao Av Ac Ai no nv nc ni co cv cc ci).mono ?_
 rintro e y3 ⟨rfl,kk⟩
 have ky3:=hide kk
 clear x0 x1 x2 x3 x4
 clear HIc su lw
 have KU':=hide (KU.out.trans (kk.mono KU.out.size))
 clear KU kk
 have KU:=KU'
 clear KU'
 have HIc:=hide (HI.out.next KU.out)
 have su:u.heap.size≤y3.heap.size:=KU.out.size
 have lw:w.heap.size<y3.heap.size:=by omega
 go_wp2_with fail
 refine (rput_any y3 p Ao Av Ac Ai no nv nc ni co cv cc ci HLen.out (by omega) HIc.out).mono ?_
 rintro e y4 ⟨A2,c2,n2,hn2,rfl,hr2,hc2,hm2,kk⟩
 obtain rfl:n2=n1:=by have:=HN1.out;omega
 have ky4:=hide kk
 clear HIc su lw
 have KU':=hide (KU.out.trans (kk.mono KU.out.size))
 clear KU kk
 have KU:=KU'
 clear KU'
 have HIc:=hide (HI.out.next KU.out)
 have su:u.heap.size≤y4.heap.size:=KU.out.size
 have lw:w.heap.size<y4.heap.size:=by omega
 have hk1:=hide (str_kept (c:=c1) ((R1.out.next ky3.out).next ky4.out) HN1.out)
 have hk2:=hide (str_kept (c:=c2) hr2 hn2)
 clear hr2 hn2 R1 ky2 ky3 ky4
 have x0:y4.cell? ⟨w.heap.size,0,none⟩=some (.int .i64 p.step):=(KU.out.cell (p:=⟨w.heap.size,0,none⟩) (by show w.heap.size<_;omega)).trans E0.out
 have x1:y4.cell? ⟨w.heap.size,1,none⟩=some (.slice Ao no co):=(KU.out.cell (p:=⟨w.heap.size,1,none⟩) (by show w.heap.size<_;omega)).trans E1.out
 have x2:y4.cell? ⟨w.heap.size,2,none⟩=some (.slice Av nv cv):=(KU.out.cell (p:=⟨w.heap.size,2,none⟩) (by show w.heap.size<_;omega)).trans E2.out
 have x3:y4.cell? ⟨w.heap.size,3,none⟩=some (.slice Ac nc cc):=(KU.out.cell (p:=⟨w.heap.size,3,none⟩) (by show w.heap.size<_;omega)).trans E3.out
 have x4:y4.cell? ⟨w.heap.size,4,none⟩=some (.slice Ai ni ci):=(KU.out.cell (p:=⟨w.heap.size,4,none⟩) (by show w.heap.size<_;omega)).trans E4.out
 have HIw:=HIc
 go_upto_region 5 with fail
 obtain⟨ws,rfl⟩:∃z:World,z=y4:=⟨_,rfl⟩
 rcases q with _ | _
 ·refine wp_region_held_drew (S:=Kept ws) (by kernel_rfl) (Kept.drew ws) (fun hS0=>?_)
  refine tka 0 22 ?_
  refine tka 2 24 ?_
  refine ck 1 23 fun K hK=>?_
  go_simp
  refine (right_any ws.drew p Ao Av Ac Ai no nv nc ni co cv cc ci HLen.out hbo (SIn.drew HIw.out)).mono ?_
  rintro e z1 ⟨rfl,k1⟩
  have hS1:Kept ws z1:=hS0.below (by simp) k1
  have K1:=hide (below_start k1)
  have HI1:=hide (HIw.out.next K1.out)
  have s1:=K1.out.size
  clear k1
  rw[HQ.out]
  go_wp2_with fail
  refine hK.out _ _ hS1 (fun hSn=>?_)
  clear hK K
  try simp only[zqd,zqe,zqf]
  refine ck 3 25 fun K hK=>?_
  go_simp
  refine (splain_any _ p.step Ao Av Ac Ai no nv nc ni co cv cc ci).mono ?_
  rintro e z2 ⟨rfl,k2⟩
  have hS2:Kept ws z2:=hS1.below s1 k2
  have K2:=hide k2
  have HI2:=hide (HI1.out.next k2)
  have s2:z1.heap.size≤z2.heap.size:=k2.size
  clear k2
  go_wp2_with fail
  refine hK.out _ _ hS2 (fun hSn=>?_)
  clear hK K
  try simp only[zqd,zqe,zqf]
  refine ck 4 26 fun K hK=>?_
  go_simp
  refine (rright_any z2 p Ao Av Ac Ai no nv nc ni co cv cc ci HLen.out hbo HI2.out).mono ?_
  rintro e z3 ⟨rfl,k3⟩
  have hS3:Kept ws z3:=hS2.below (by omega) k3
  have K3:=hide k3
  have s3:z2.heap.size≤z3.heap.size:=k3.size
  clear k3
  rw[HQ.out]
  go_wp2_with fail
  refine hK.out _ _ hS3 (fun hSn=>?_)
  clear hK K
  try simp only[zqd,zqe,zqf]
  refine tka 5 27 ?_
  refine tka 6 28 ?_
  refine tka 7 29 ?_
  refine tk 8 30 ?_ ?_ ?_;rotate_left;(focus (intro w hSw;have hh:=hk1.out w hSw;go_simp;(try with_reducible rfl);done));(try simp only[zqd,zqe,zqf])
  refine tka 9 31 ?_
  refine tk 10 32 ?_ ?_ ?_;rotate_left;(focus (intro w hSw;have hh:=hk2.out w hSw;go_simp;(try with_reducible rfl);done));(try simp only[zqd,zqe,zqf])
  refine tka 11 33 ?_
  refine tka 12 34 ?_
  refine tka 13 35 ?_
  refine tka 14 36 ?_
  refine tka 15 37 ?_
  refine tka 16 38 ?_
  refine tka 17 39 ?_
  refine tka 18 40 ?_
  refine ck 19 41 fun K hK=>?_
  go_simp
  refine (works_any z3).mono ?_
  rintro e z4 ⟨rfl,k4⟩
  have hS4:Kept ws z4:=hS3.below (by omega) k4
  have K4:=hide k4
  clear k4
  go_wp2_with fail
  refine hK.out _ _ hS4 (fun hSn=>?_)
  clear hK K
  try simp only[zqd,zqe,zqf]
  refine tka 20 42 ?_
  refine tka 21 2 ?_
  refine wpAnyH_done (by kernel_rfl) ?_ _
  clear hS0 hS1 hS2 hS3 hS4 hSn x0 x1 x2 x3 x4
  have HFin:Hid (Below w.heap.size w z4):=hide (by
 have a1:Below ws.heap.size ws z2:=K1.out.trans (K2.out.mono s1)
 have a2:Below ws.heap.size ws z3:=a1.trans (K3.out.mono (by omega))
 have a3:Below ws.heap.size ws z4:=a2.trans (K4.out.mono (by omega))
 have a4:Below u.heap.size u z4:=KU.out.trans (a3.mono su)
 exact HB.out.trans (a4.mono (by omega)))
  go_wp2
  go_ret
  exact⟨rfl,HFin.out⟩
 refine wp_region_held_drew (S:=Kept ws) (by kernel_rfl) (Kept.drew ws) (fun hS0=>?_)
 refine tka 0 22 ?_
 refine tka 2 24 ?_
 refine ck 1 23 fun K hK=>?_
 go_simp
 refine (right_any ws.drew p Ao Av Ac Ai no nv nc ni co cv cc ci HLen.out hbo (SIn.drew HIw.out)).mono ?_
 rintro e z1 ⟨rfl,k1⟩
 have hS1:Kept ws z1:=hS0.below (by simp) k1
 have K1:=hide (below_start k1)
 have HI1:=hide (HIw.out.next K1.out)
 have s1:=K1.out.size
 clear k1
 rw[HQ.out]
 go_wp2_with fail
 refine hK.out _ _ hS1 (fun hSn=>?_)
 clear hK K
 try simp only[zqd,zqe,zqf]
 refine ck 3 25 fun K hK=>?_
 go_simp
 refine (splain_any _ p.step Ao Av Ac Ai no nv nc ni co cv cc ci).mono ?_
 rintro e z2 ⟨rfl,k2⟩
 have hS2:Kept ws z2:=hS1.below s1 k2
 have K2:=hide k2
 have HI2:=hide (HI1.out.next k2)
 have s2:z1.heap.size≤z2.heap.size:=k2.size
 clear k2
 go_wp2_with fail
 refine hK.out _ _ hS2 (fun hSn=>?_)
 clear hK K
 try simp only[zqd,zqe,zqf]
 refine ck 4 26 fun K hK=>?_
 go_simp
 refine (rright_any z2 p Ao Av Ac Ai no nv nc ni co cv cc ci HLen.out hbo HI2.out).mono ?_
 rintro e z3 ⟨rfl,k3⟩
 have hS3:Kept ws z3:=hS2.below (by omega) k3
 have K3:=hide k3
 have s3:z2.heap.size≤z3.heap.size:=k3.size
 clear k3
 rw[HQ.out]
 go_wp2_with fail
 refine hK.out _ _ hS3 (fun hSn=>?_)
 clear hK K
 try simp only[zqd,zqe,zqf]
 refine tka 5 27 ?_
 refine tka 6 28 ?_
 refine tka 7 29 ?_
 refine tk 8 30 ?_ ?_ ?_;rotate_left;(focus (intro w hSw;have hh:=hk1.out w hSw;go_simp;(try with_reducible rfl);done));(try simp only[zqd,zqe,zqf])
 refine tka 9 31 ?_
 refine tk 10 32 ?_ ?_ ?_;rotate_left;(focus (intro w hSw;have hh:=hk2.out w hSw;go_simp;(try with_reducible rfl);done));(try simp only[zqd,zqe,zqf])
 refine tka 11 33 ?_
 refine tka 12 34 ?_
 refine tka 13 35 ?_
 refine tka 14 36 ?_
 refine tka 15 37 ?_
 refine tka 16 38 ?_
 refine tka 17 39 ?_
 refine tka 18 40 ?_
 refine ck 19 41 fun K hK=>?_
 go_simp
 refine (works_any z3).mono ?_
 rintro e z4 ⟨rfl,k4⟩
 have hS4:Kept ws z4:=hS3.below (by omega) k4
 have K4:=hide k4
 clear k4
 go_wp2_with fail
 refine hK.out _ _ hS4 (fun hSn=>?_)
 clear hK K
 try simp only[zqd,zqe,zqf]
 refine tka 20 42 ?_
 refine tka 21 2 ?_
 refine wpAnyH_done (by kernel_rfl) ?_ _
 clear hS0 hS1 hS2 hS3 hS4 hSn x0 x1 x2 x3 x4
 have HFin:Hid (Below w.heap.size w z4):=hide (by
 have a1:Below ws.heap.size ws z2:=K1.out.trans (K2.out.mono s1)
 have a2:Below ws.heap.size ws z3:=a1.trans (K3.out.mono (by omega))
 have a3:Below ws.heap.size ws z4:=a2.trans (K4.out.mono (by omega))
 have a4:Below u.heap.size u z4:=KU.out.trans (a3.mono su)
 exact HB.out.trans (a4.mono (by omega)))
 go_wp2
 go_ret
 exact⟨rfl,HFin.out⟩
end Go.Proofs.YtpojjmbalgmcoaaGreat
namespace Go.Proofs.YtpojjmbalgmcoaaGreat
open Go.RowKit
def gotP (st:Int) (vals:List Int) (chg:List Bool) (inb:List Ml) (K q:Nat):SPart:=nmS (pickP st vals chg inb (ownUpto (K:Int) (q:Int) vals.length))
def gots (st:Int) (vals:List Int) (chg:List Bool) (inb:List Ml) (K n:Nat):List SPart:=(List.range n).map (gotP st vals chg inb K)
section
variable {st:Int} {vals:List Int} {chg:List Bool} {inb:List Ml} {K:Nat}
theorem gots_len (n:Nat):(gots st vals chg inb K n).length=n:=by simp[gots]
theorem gots_get {n q:Nat} (h:q<n):(gots st vals chg inb K n)[q]?=some (gotP st vals chg inb K q):=by
 unfold gots
 rw[List.getElem?_map,List.getElem?_range h]
 rfl
theorem gots_of {n q:Nat} {p:SPart} (h:(gots st vals chg inb K n)[q]?=some p):q<n∧p=gotP st vals chg inb K q:=by
 have hq:q<n:=by
  have:=(List.getElem?_eq_some_iff.1 h).1
  rwa [gots_len] at this
 rw[gots_get hq] at h
 exact⟨hq,(Option.some.inj h).symm⟩
theorem takeE_all {q:Nat} (hK:1≤K) (hK2:K≤64) (hq:q<K):takeE st vals chg inb (K:Int) (q:Int)=takeE st vals chg inb (K:Int) 0:=by
 unfold takeE
 rw[if_neg (show ¬((K:Int)<1∨64<(K:Int)∨(q:Int)<0∨(K:Int)≤(q:Int)) by omega),if_neg (show ¬((K:Int)<1∨64<(K:Int)∨(0:Int)<0∨(K:Int)≤0) by omega)]
theorem takeE_zero {q:Int} (h:takeE st vals chg inb (K:Int) q=0):1≤vals.length∧rightB (wholeP st vals chg inb)=true:=by
 unfold takeE at h
 split at h
 ·cases h
 split at h
 ·cases h
 rename_i h1
 refine⟨by omega,?_⟩
 cases hr:rightB (wholeP st vals chg inb) with
 | false=>exact absurd (.inr hr) h1
 | true=>rfl
theorem takeE_cases (q:Int):takeE st vals chg inb (K:Int) q=0∨takeE st vals chg inb (K:Int) q=2∨takeE st vals chg inb (K:Int) q=4:=by
 unfold takeE
 split
 ·exact .inr (.inl rfl)
 split
 ·exact .inr (.inr rfl)
 exact .inl rfl
theorem rightL_pick (vals:List Int) (inb:List Ml):∀(l:List Int) (last:Int),(∀v∈l,last<v∧v<512∧inB (vals.getD v.toNat 0)=true∧(!(inb.getD v.toNat (false,0)).1 || inB (inb.getD v.toNat (false,0)).2)=true)→l.Pairwise (· < ·)→rightL last l (pv vals l) (pm inb l)=true
 | [],last,_,_=>rightL_nil _ _ _
 | v :: l,last,h,hp=>by
  obtain⟨a1,a2,a3,a4⟩:=h v (List.mem_cons_self ..)
  rw[List.pairwise_cons] at hp
  unfold pv pm
  rw[List.map_cons,List.map_cons]
  unfold rightL
  simp only[Bool.and_eq_true,decide_eq_true_eq]
  exact⟨⟨⟨⟨a1,a2⟩,a3⟩,a4⟩,rightL_pick vals inb l v (fun u hu=>⟨hp.1 u hu,(h u (List.mem_cons_of_mem _ hu)).2⟩) hp.2⟩
theorem own_rise (n k:Int) (V:Nat):(ownUpto n k V).Pairwise (· < ·):=by
 unfold ownUpto
 refine List.Pairwise.filter _ ?_
 rw[List.pairwise_map]
 exact List.pairwise_lt_range.imp fun h=>by omega
theorem own_bound {n k:Int} {V:Nat} {v:Int} (h:v∈ownUpto n k V):∃u:Nat,u<V∧v=(u:Int):=by
 unfold ownUpto at h
 rw[List.mem_filter,List.mem_map] at h
 obtain⟨⟨u,hu,rfl⟩,_⟩:=h
 exact⟨u,List.mem_range.1 hu,rfl⟩
theorem right_pick (hr:rightB (wholeP st vals chg inb)=true) (h60:vals.length≤60) (n k:Int):rightB (pickP st vals chg inb (ownUpto n k vals.length))=true:=by
 obtain⟨l1,l2⟩:=right_whole_lens hr
 have hs:=right_step hr
 have hl:=rightL_pick vals inb (ownUpto n k vals.length) (-1) (fun v hv=>by
  obtain⟨u,hu,rfl⟩:=own_bound hv
  have h5:=right_at hr (j:=u) (by unfold wholeP;rw[upto_len];exact hu)
  rw[Int.toNat_natCast]
  exact⟨by omega,by omega,h5⟩) (own_rise _ _ _)
 unfold rightB pickP
 simp only[Bool.and_eq_true,decide_eq_true_eq]
 refine⟨⟨⟨⟨⟨hs.1,hs.2⟩,by simp[pv]⟩,by simp[pc]⟩,by simp[pm]⟩,hl⟩
theorem sum_add_ (f g:Nat→Nat):∀n,((List.range n).map fun q=>f q+g q).sum=((List.range n).map f).sum+((List.range n).map g).sum
 | 0=>rfl
 | n+1=>by
  have ih:=sum_add_ f g n
  simp only[List.range_succ,List.map_append,List.sum_append,List.map_cons,List.map_nil,List.sum_cons,List.sum_nil] at ih ⊢
  omega
theorem sum_one (a:Nat):∀n,((List.range n).map fun q=>if a=q then 1 else 0).sum=if a<n then 1 else 0
 | 0=>by simp
 | n+1=>by
  have ih:=sum_one a n
  simp only[List.range_succ,List.map_append,List.sum_append,List.map_cons,List.map_nil,List.sum_cons,List.sum_nil] at ih ⊢
  rw[ih]
  by_cases h1:a<n
  ·rw[if_pos h1,if_neg (by omega),if_pos (by omega)]
   rfl
  rw[if_neg h1]
  by_cases h2:a=n
  ·rw[if_pos h2,if_pos (by omega)]
   rfl
  rw[if_neg h2,if_neg (by omega)]
  rfl
theorem sum_own (hK:1≤K) (hK2:K≤64):∀V,V≤512→((List.range K).map fun q=>(ownUpto (K:Int) ((q:Nat):Int) V).length).sum=V
 | 0,_=>by
  have:∀n,((List.range n).map fun q=>(ownUpto (K:Int) ((q:Nat):Int) 0).length).sum=0:=fun n=>by
   induction n with
   | zero=>rfl
   | succ n ih=>rw[List.range_succ,List.map_append,List.sum_append,ih];rfl
  exact this K
 | V+1,h=>by
  have ih:=sum_own hK hK2 V (by omega)
  obtain⟨a,b⟩:=ofF_ok (V:Int) (K:Int) (by omega) (by omega) (by omega) (by omega)
  obtain⟨w,hw⟩:=Int.eq_ofNat_of_zero_le a
  have e:∀q:Nat,(ownUpto (K:Int) (q:Int) (V+1)).length=(ownUpto (K:Int) (q:Int) V).length+if w=q then 1 else 0:=fun q=>by
   by_cases h1:w=q
   ·rw[own_snoc_in (by omega) (by rw[hw,h1]),if_pos h1]
    simp
   rw[own_snoc_out (by rw[hw];omega),if_neg h1]
   rfl
  simp only[e]
  rw[sum_add_,ih,sum_one,if_pos (by omega)]
theorem nAll_gots (hK:1≤K) (hK2:K≤64) (h60:vals.length≤60):nAll (gots st vals chg inb K K)=vals.length:=by
 unfold nAll sumOwn
 rw[List.take_of_length_le (Nat.le_refl _)]
 unfold gots
 rw[List.map_map]
 exact sum_own hK hK2 vals.length (by omega)
theorem ok_gots (hK:1≤K) (hK2:K≤64) (h60:vals.length≤60) (h1:1≤vals.length) (hr:rightB (wholeP st vals chg inb)=true):okJ (gots st vals chg inb K K):=by
 have hn:nAll (gots st vals chg inb K K)=vals.length:=nAll_gots hK hK2 h60
 refine (ok_iff (by rw[gots_len];omega) (by rw[gots_len];omega) (by omega) (by omega) fun w p hp=>?_).2 fun w p hp=>?_
 ·obtain⟨_,rfl⟩:=gots_of hp
  unfold gotP
  rw[rightB_nm]
  exact right_pick hr h60 _ _
 obtain⟨hw,rfl⟩:=gots_of hp
 rw[hn,gots_len]
 refine⟨?_,rfl⟩
 unfold stepJ
 rw[List.getD_eq_getElem?_getD,gots_get (show 0<K by omega)]
 rfl
theorem step_gots (hK:1≤K):stepJ (gots st vals chg inb K K)=st:=by
 unfold stepJ
 rw[List.getD_eq_getElem?_getD,gots_get (show 0<K by omega)]
 rfl
theorem at_gots (hK:1≤K) (hK2:K≤64) (h60:vals.length≤60) (h1:1≤vals.length) (hr:rightB (wholeP st vals chg inb)=true) {v:Nat} (hv:v<vals.length) :
  jV (gots st vals chg inb K K) v=vals.getD v 0∧jC (gots st vals chg inb K K) v=chg.getD v false∧jM (gots st vals chg inb K K) v=nmA (inb.getD v (false,0)):=by
 have hn:nAll (gots st vals chg inb K K)=vals.length:=nAll_gots hK hK2 h60
 obtain⟨p1,p2⟩:=ok_place (ok_gots (st:=st) (chg:=chg) (inb:=inb) hK hK2 h60 h1 hr) (v:=v) (by omega)
 obtain⟨a,b⟩:=ofF_ok (v:Int) (K:Int) (by omega) (by omega) (by omega) (by omega)
 obtain⟨w,hw⟩:=Int.eq_ofNat_of_zero_le a
 have hk:wk (gots st vals chg inb K K) v=gotP st vals chg inb K w:=by
  unfold wk
  rw[gots_len,hw,Int.toNat_natCast,List.getD_eq_getElem?_getD,gots_get (by omega)]
  rfl
 have hx:(gotP st vals chg inb K w).own[ix (gots st vals chg inb K K) v]?=some (v:Int):=by
  unfold ix at p2 ⊢
  rw[hk] at p1 p2 ⊢
  rcases plc_spec (v:Int) (gotP st vals chg inb K w).own 0 with ⟨h2,_⟩ | ⟨j,g1,g2,g3⟩
  ·omega
  rw[g2,Nat.zero_add,Int.toNat_natCast]
  exact g3
 have ho:(ownUpto (K:Int) (w:Int) vals.length)[ix (gots st vals chg inb K K) v]?=some (v:Int):=hx
 unfold jV jC jM
 rw[hk]
 refine⟨?_,?_,?_⟩
 ·show (pv vals (ownUpto (K:Int) (w:Int) vals.length)).getD _ 0=_
  unfold pv
  rw[List.getD_eq_getElem?_getD,List.getElem?_map,ho]
  rfl
 ·show (pc chg (ownUpto (K:Int) (w:Int) vals.length)).getD _ false=_
  unfold pc
  rw[List.getD_eq_getElem?_getD,List.getElem?_map,ho]
  rfl
 show ((pm inb (ownUpto (K:Int) (w:Int) vals.length)).map nmA).getD _ (false,0)=_
 unfold pm
 rw[List.getD_eq_getElem?_getD,List.getElem?_map,List.getElem?_map,ho]
 rfl
theorem rows_gots (hK:1≤K) (hK2:K≤64) (h60:vals.length≤60) (h1:1≤vals.length) (hr:rightB (wholeP st vals chg inb)=true) :
  (List.range vals.length).map (jV (gots st vals chg inb K K))=vals∧(List.range vals.length).map (jC (gots st vals chg inb K K))=chg∧(List.range vals.length).map (jM (gots st vals chg inb K K))=inb.map nmA:=by
 obtain⟨l1,l2⟩:=right_whole_lens hr
 refine⟨?_,?_,?_⟩
 ·rw[List.map_congr_left (g:=fun v=>vals.getD v 0) fun v hv=>(at_gots hK hK2 h60 h1 hr (List.mem_range.1 hv)).1]
  exact rangeL_getD vals 0 _ rfl
 ·rw[List.map_congr_left (g:=fun v=>chg.getD v false) fun v hv=>(at_gots hK hK2 h60 h1 hr (List.mem_range.1 hv)).2.1]
  exact rangeL_getD chg false _ l1
 rw[List.map_congr_left (g:=fun v=>nmA (inb.getD v (false,0))) fun v hv=>(at_gots hK hK2 h60 h1 hr (List.mem_range.1 hv)).2.2]
 rw[←l2]
 exact range_getD2 inb (false,0) nmA _ rfl
end
def RdX (w:World) (X:Option Nat) (A:Option Addr) (xs:List Value):Prop:=Rd w w.heap.size A xs∧(xs≠[]→∀b off,A=some ⟨b,off,none⟩→some b≠X)
theorem RdX.next {w w':World} {X:Option Nat} {A:Option Addr} {xs:List Value} (h:RdX w X A xs) (hb:Below w.heap.size w w'):RdX w' X A xs:=⟨h.1.next hb,h.2⟩
theorem RdX.grown {w w':World} {X X':Option Nat} {A:Option Addr} {xs:List Value} (h:RdX w X A xs) (hg:w.grownBy w' X) (hX:X'=X∨X'=some w.heap.size):RdX w' X' A xs:=by
 refine⟨fun hn=>?_,fun hn b off e=>?_⟩
 ·obtain⟨b,off,rfl,hb,hc⟩:=h.1 hn
  exact⟨b,off,rfl,Nat.lt_of_lt_of_le hb hg.size,fun j u hu=>(World.cell?_of_block (hg.block b hb (h.2 hn b off rfl))).trans (hc j u hu)⟩
 rcases hX with rfl | rfl
 ·exact h.2 hn b off e
 obtain⟨b',off',e',hb,_⟩:=h.1 hn
 rw[e] at e'
 injection e' with e'
 injection e' with e1 e2
 intro h1
 injection h1 with h1
 omega
theorem RdX.new {w:World} {X:Option Nat} {A:Option Addr} {xs:List Value} {B:Nat} (h:Rd w w.heap.size A xs) (hn:NewAA B A) (hX:∀g,X=some g→g<B):RdX w X A xs:=
 ⟨h,fun _ b off e h1=>by have:=hn b off e;have:=hX b h1.symm;omega⟩
def PVX (w:World) (X:Option Nat) (cs:List Value) (p:SPart):Prop:=∃(Ao Av Ac Ai:Option Addr) (no nv nc ni co cv cc ci:Nat),cs=[.int .i64 p.step,.slice Ao no co,.slice Av nv cv,.slice Ac nc cc,.slice Ai ni ci]∧SLen p no nv nc ni∧(RdX w X Ao (i64s p.own)∧RdX w X Av (i64s p.vals)∧RdX w X Ac (bools p.chg)∧RdX w X Ai (mlFlat p.inb)) ∧
 (no≤9223372036854775807∧nv≤9223372036854775807∧nc≤9223372036854775807∧ni≤9223372036854775807)
theorem PVX.next {w w':World} {X:Option Nat} {cs:List Value} {p:SPart} (h:PVX w X cs p) (hb:Below w.heap.size w w'):PVX w' X cs p:=by
 obtain⟨Ao,Av,Ac,Ai,no,nv,nc,ni,co,cv,cc,ci,h1,h2,⟨r1,r2,r3,r4⟩,h4⟩:=h
 exact⟨Ao,Av,Ac,Ai,no,nv,nc,ni,co,cv,cc,ci,h1,h2,⟨r1.next hb,r2.next hb,r3.next hb,r4.next hb⟩,h4⟩
theorem PVX.grown {w w':World} {X X':Option Nat} {cs:List Value} {p:SPart} (h:PVX w X cs p) (hg:w.grownBy w' X) (hX:X'=X∨X'=some w.heap.size):PVX w' X' cs p:=by
 obtain⟨Ao,Av,Ac,Ai,no,nv,nc,ni,co,cv,cc,ci,h1,h2,⟨r1,r2,r3,r4⟩,h4⟩:=h
 exact⟨Ao,Av,Ac,Ai,no,nv,nc,ni,co,cv,cc,ci,h1,h2,⟨r1.grown hg hX,r2.grown hg hX,r3.grown hg hX,r4.grown hg hX⟩,h4⟩
theorem PVX.val {w:World} {X:Option Nat} {cs:List Value} {p:SPart} (h:PVX w X cs p):PVal w cs p:=by
 obtain⟨Ao,Av,Ac,Ai,no,nv,nc,ni,co,cv,cc,ci,h1,h2,⟨r1,r2,r3,r4⟩,h4⟩:=h
 exact⟨Ao,Av,Ac,Ai,no,nv,nc,ni,co,cv,cc,ci,h1,h2,⟨r1.1,r2.1,r3.1,r4.1⟩,h4⟩
def MW (w:World) (X:Option Nat) (xs:List Value) (ps:List SPart) (n:Nat):Prop:=∀(q:Nat) (p:SPart),q<n→ps[q]?=some p→∃cs:List Value,cs.length=5∧PVX w X cs p∧∀j u,cs[j]?=some u→xs[q*5+j]?=some u
def MWR (B:Nat) (w:World) (ps:List SPart) (A:Option Addr) (n c:Nat):Prop:=∃xs,w.ownsRow B 42 5 (.slice A n c) n xs∧MW w (Value.slice A n c).ownBlock xs ps n
section
variable {B:Nat} {w w':World} {ps:List SPart} {A:Option Addr} {n c:Nat}
theorem MWR.zero (B:Nat) (w:World) (ps:List SPart):MWR B w ps none 0 0:=⟨[],World.ownsRow_nil _ _ _ _,fun q p h=>absurd h (by omega)⟩
theorem MWR.next (h:MWR B w ps A n c) (hb:Below w.heap.size w w'):MWR B w' ps A n c:=by
 obtain⟨xs,ho,hm⟩:=h
 refine⟨xs,own_below ho hb (fun g hg=>(ho.lt g hg).2),fun q p hq hp=>?_⟩
 obtain⟨cs,h1,h2,h3⟩:=hm q p hq hp
 exact⟨cs,h1,h2.next hb,h3⟩
theorem MWR.row (h:MWR B w ps A ps.length c):PRow w A ps:=fun hn=>by
 obtain⟨xs,ho,hm⟩:=h
 have hpos:0<ps.length:=List.length_pos_iff.2 hn
 obtain⟨g,rfl,_,hlt,_⟩:=own_addr ho hpos
 refine⟨g,0,rfl,hlt,fun i x hx=>?_⟩
 obtain⟨cs,hl,hv,hc⟩:=hm i x (List.getElem?_eq_some_iff.1 hx).1 hx
 refine⟨cs,hl,hv.val,fun j u hu=>?_⟩
 have h1:=hc j u hu
 have h2:=(List.getElem?_eq_some_iff.1 h1).1
 have h3:=ho.1
 rw[Nat.zero_add,ho.cellAt (i*5+j) (by omega)]
 exact h1
theorem MW.snoc {X X':Option Nat} {xs:List Value} (h:MW w X xs ps n) (hg:w.grownBy w' X) (hX:X'=X∨X'=some w.heap.size) (hx:xs.length=n*5) {p:SPart} (hp:ps[n]?=some p) {cs:List Value} (hl:cs.length=5) (hv:PVX w X cs p):MW w' X' (xs ++ cs) ps (n+1):=fun q p' hq hp'=>by
 rcases Nat.lt_or_ge q n with h1 | h1
 ·obtain⟨cs',a1,a2,a3⟩:=h q p' h1 hp'
  refine⟨cs',a1,a2.grown hg hX,fun j u hu=>?_⟩
  have h2:=(List.getElem?_eq_some_iff.1 hu).1
  rw[List.getElem?_append_left (by omega)]
  exact a3 j u hu
 obtain rfl:q=n:=by omega
 rw[hp] at hp'
 obtain rfl:=Option.some.inj hp'
 refine⟨cs,hl,hv.grown hg hX,fun j u hu=>?_⟩
 rw[List.getElem?_append_right (by omega),hx,show q*5+j-q*5=j by omega]
 exact hu
end
section
variable {w w':World} {ps:List SPart} {A:Option Addr} {n c:Nat}
theorem put_short (p:SPart) (h:p.own.length≤60):(putB p).length≤1000000:=by
 have:=putB_len p
 omega
theorem far_rd {w1 w2 f:World} {T:Nat} {A:Option Addr} {xs:List Value} (h:Rd w1 w1.heap.size A xs) (hT:w1.heap.size=T) (hb2:Below w1.heap.size w1 w2) (hf:∀b,b≠T→f.heap[b]?=w2.heap[b]?) (hs:f.heap.size=w2.heap.size):Rd f f.heap.size A xs:=fun hn=>by
 obtain⟨b,off,e,hb,hc⟩:=h hn
 have:=hb2.size
 exact⟨b,off,e,by omega,fun j z hz=>(World.cell?_of_block ((hf b (by omega)).trans (hb2.block b hb))).trans (hc j z hz)⟩
theorem pvx_new {X:Option Nat} {B:Nat} {p:SPart} {Ao Av Ac Ai:Option Addr} {no nv nc ni:Nat} (hr:rightB p=true) (h60:p.own.length≤60) (hl:SLen p no nv nc ni) (hi:SIn w p Ao Av Ac Ai) (w1:NewAA B Ao) (w2:NewAA B Av) (w3:NewAA B Ac) (w4:NewAA B Ai) (co cv cc ci:Nat) (hX:∀g,X=some g→g<B) :
  PVX w X [.int .i64 p.step,.slice Ao no co,.slice Av nv cv,.slice Ac nc cc,.slice Ai ni ci] p:=by
 obtain⟨l1,l2,l3⟩:=right_lens3 hr
 have h:=hl
 unfold SLen at h
 exact⟨Ao,Av,Ac,Ai,no,nv,nc,ni,co,cv,cc,ci,rfl,hl,⟨.new hi.own w1 hX,.new hi.vals w2 hX,.new hi.chg w3 hX,.new hi.inb w4 hX⟩,by omega⟩
theorem own_short (n k:Int) (V:Nat):(ownUpto n k V).length≤V:=by
 unfold ownUpto
 refine Nat.le_trans (List.length_filter_le _ _) ?_
 simp
end
theorem statesWhole_go (w:World) (st sm mo:Int) (A1 A2 A3:Option Addr) (V n2 n3 c1 c2 c3:Nat) (vals:List Int) (chg:List Bool) (inb:List Ml) (m:Nat) (hm:m≤255) (hv:vals.length=V) (hc:chg.length=n2) (hi:inb.length=n3)
  (r1:Rd w w.heap.size A1 (i64s vals)) (r2:Rd w w.heap.size A2 (bools chg)) (r3:Rd w w.heap.size A3 (mlFlat inb)) :
  Calls Tryz.prog 6 #[.agg #[.int .i64 st,.slice A1 V c1,.slice A2 n2 c2,.slice A3 n3 c3,.int .i64 sm,.int .i64 mo],.int .u8 (m:Int)] w fun e W'=>e = .returned (.bool true)∧Below w.heap.size w W':=by
 obtain⟨u,hu⟩:∃u,w.alloc (.cells #[.int .i64 st,.slice A1 V c1,.slice A2 n2 c2,.slice A3 n3 c3,.int .i64 sm,.int .i64 mo] 33)=u:=⟨_,rfl⟩
 have hzu:w.heap.size<u.heap.size:=by rw[←hu];simp
 have HBU:=hide (show Below w.heap.size w u by rw[←hu];exact (Below.refl _ _).alloc (Nat.le_refl _) _)
 have M0:=hide (show u.heap[w.heap.size]?=some (.cells #[.int .i64 st,.slice A1 V c1,.slice A2 n2 c2,.slice A3 n3 c3,.int .i64 sm,.int .i64 mo] 33) by rw[←hu];exact heap_alloc_last _ _)
 have HU:=hide hu
 have R1:=hide (r1.next HBU.out)
 have R2:=hide (r2.next HBU.out)
 have R3:=hide (r3.next HBU.out)
 have HV:=hide hv
 have HC:=hide hc
 have HI:=hide hi
 clear hu r1 r2 r3 hv hc hi
 by_cases g1:60<V
 ·have g1':(60:Int)<(V:Int):=by omega
  have N0:=M0.out
  obtain⟨x0,x1,x2,x3,x4,x5⟩:=zr6 N0
  clear N0
  go_enter Tryz.func6,Tryz.ntmps6
  go_upto_region 1 with fail
  rw[HU.out]
  go_wp2_with fail
  refine (works_any _).mono ?_
  rintro e w2 ⟨rfl,hb⟩
  have HF:=hide (HBU.out.trans (hb.mono (by omega)))
  clear hb
  go_wp2
  go_ret
  exact⟨rfl,HF.out⟩
 by_cases g2:60<n2
 ·have g1':¬(60:Int)<(V:Int):=by omega
  have g2':(60:Int)<(n2:Int):=by omega
  have N0:=M0.out
  obtain⟨x0,x1,x2,x3,x4,x5⟩:=zr6 N0
  clear N0
  go_enter Tryz.func6,Tryz.ntmps6
  go_upto_region 1 with fail
  rw[HU.out]
  go_wp2_with fail
  refine (works_any _).mono ?_
  rintro e w2 ⟨rfl,hb⟩
  have HF:=hide (HBU.out.trans (hb.mono (by omega)))
  clear hb
  go_wp2
  go_ret
  exact⟨rfl,HF.out⟩
 by_cases g3:60<n3
 ·have g1':¬(60:Int)<(V:Int):=by omega
  have g2':¬(60:Int)<(n2:Int):=by omega
  have g3':(60:Int)<(n3:Int):=by omega
  have N0:=M0.out
  obtain⟨x0,x1,x2,x3,x4,x5⟩:=zr6 N0
  clear N0
  go_enter Tryz.func6,Tryz.ntmps6
  go_upto_region 1 with fail
  rw[HU.out]
  go_wp2_with fail
  refine (works_any _).mono ?_
  rintro e w2 ⟨rfl,hb⟩
  have HF:=hide (HBU.out.trans (hb.mono (by omega)))
  clear hb
  go_wp2
  go_ret
  exact⟨rfl,HF.out⟩
 have g1':¬(60:Int)<(V:Int):=by omega
 have g2':¬(60:Int)<(n2:Int):=by omega
 have g3':¬(60:Int)<(n3:Int):=by omega
 obtain⟨K,hK⟩:∃K,1+m % 64=K:=⟨_,rfl⟩
 have hK1:1≤K:=by omega
 have hK2:K≤64:=by omega
 have hKi:(1:Int)+(m:Int) % 64=(K:Int):=by omega
 have hm0:(0:Int)≤(m:Int):=by omega
 have hm1:(m:Int)≤255:=by omega
 have hKn:(K:Int)≤64:=by omega
 have hKp:(1:Int)≤(K:Int):=by omega
 clear hK
 obtain⟨a1,a1i,a1z,a1s,a1b⟩:=info_parts (show (Tryz.prog.info? 42).map (fun i=>(i.zero,i.size,i.bytes))=some (some (.agg #[.int .i64 0,.slice none 0 0,.slice none 0 0,.slice none 0 0,.slice none 0 0]),5,104) by kernel_rfl)
 have N0:=M0.out
 obtain⟨x0,x1,x2,x3,x4,x5⟩:=zr6 N0
 clear N0
 go_enter Tryz.func6,Tryz.ntmps6
 go_upto_region 1 with fail
 rw[HU.out]
 go_wp2
 clear hKi x0 x1 x2 x3 x4 x5
 have HUB:=hide (Below.refl u.heap.size u)
 go_loopw [7,6] (fun v7 v6 wr=>∃(i:Nat) (Al:Option Addr) (cl:Nat),i≤K∧v7 = .int .i64 (i:Int)∧v6 = .slice Al i cl∧Hid (MWR u.heap.size wr (gots st vals chg inb K K) Al i cl)∧Hid (i=0∨takeE st vals chg inb (K:Int) 0=0)∧Hid (Below u.heap.size u wr)) (fun v7 _ _=>K-(intOf v7).toNat)
 case atStart=>exact⟨0,none,0,by omega,rfl,rfl,hide (MWR.zero _ _ _),hide (.inl rfl),HUB⟩
 case round=>
  clear HUB
  obtain⟨i,Al,cl,hi,rfl,rfl,hM,hE,hbr⟩:=hrel
  have srw:u.heap.size≤wr.heap.size:=hbr.out.size
  by_cases hlt:i<K
  ·have hI0:(0:Int)≤(i:Int):=by omega
   have hI1:(i:Int)<(K:Int):=by omega
   have M0r:=hide ((hbr.out.block _ hzu).trans M0.out)
   have hcl:=stake_any wr st sm mo A1 A2 A3 V n2 n3 c1 c2 c3 vals chg inb (K:Int) (i:Int) (by omega) HV.out HC.out HI.out (R1.out.next hbr.out) (R2.out.next hbr.out) (R3.out.next hbr.out)
   rw[takeE_all hK1 hK2 hlt] at hcl
   have N0:=M0r.out
   obtain⟨x0,x1,x2,x3,x4,x5⟩:=zr6 N0
   clear N0
   have hwr:w.heap.size<wr.heap.size:=by omega
   rcases hE0:decide (takeE st vals chg inb (K:Int) 0=0) with _ | _
   ·have hEn:takeE st vals chg inb (K:Int) 0≠0:=of_decide_eq_false hE0
    obtain rfl:i=0:=by rcases hE.out with h | h;exact h;exact absurd h hEn
    obtain⟨E,hEe⟩:∃E,takeE st vals chg inb (K:Int) 0=E:=⟨_,rfl⟩
    have hcs:=takeE_cases (st:=st) (vals:=vals) (chg:=chg) (inb:=inb) (K:=K) 0
    rw[hEe] at hcl hEn hcs
    clear hE0 hE hEe
    have HCL:=hide hcl
    clear hcl
    have hEf:E=2∨E=4:=by omega
    clear hcs hEn
    go_wp2_with fail
    refine HCL.out.mono ?_
    rintro e z ⟨no1,nv1,nc1,ni1,Ao1,co1,Av1,cv1,Ac1,cc1,Ai1,ci1,hsl,hno,rfl,hsi,hz⟩
    have HZ:=hide (hbr.out.trans (hz.mono srw))
    clear hsl hsi hz HCL x0 x1 x2 x3 x4 x5
    have szz:=HZ.out.size
    obtain⟨p1,hp1⟩:∃p,takeP st vals chg inb (K:Int) ((0:Nat):Int)=p:=⟨_,rfl⟩
    rw[hp1]
    clear hp1
    obtain⟨z1,hz1⟩:∃y,z.alloc (.cells #[.int .i64 p1.step,.slice Ao1 no1 co1,.slice Av1 nv1 cv1,.slice Ac1 nc1 cc1,.slice Ai1 ni1 ci1] 42)=y:=⟨_,rfl⟩
    have HZ1:=hide (show Below u.heap.size u z1 by rw[←hz1];exact HZ.out.alloc szz _)
    have HZe:=hide hz1
    clear hz1
    rcases hEf with rfl | rfl
    ·go_upto_region 9 with fail
     rw[HZe.out]
     go_wp2_with fail
     refine (works_any _).mono ?_
     rintro e w2 ⟨rfl,hb⟩
     have HF:=hide (HBU.out.trans ((HZ1.out.trans (hb.mono HZ1.out.size)).mono (by omega)))
     clear hb
     go_wp2
     go_ret
     exact⟨rfl,HF.out⟩
    go_upto_region 9 with fail
    rw[HZe.out]
    go_wp2_with fail
    refine (works_any _).mono ?_
    rintro e w2 ⟨rfl,hb⟩
    have HF:=hide (HBU.out.trans ((HZ1.out.trans (hb.mono HZ1.out.size)).mono (by omega)))
    clear hb
    go_wp2
    go_ret
    exact⟨rfl,HF.out⟩
   have hEz:takeE st vals chg inb (K:Int) 0=0:=of_decide_eq_true hE0
   have HEz:=hide hEz
   have hTP:takeP st vals chg inb (K:Int) (i:Int)=(pickP st vals chg inb (ownUpto (K:Int) (i:Int) vals.length)):=by unfold takeP;rw[takeE_all hK1 hK2 hlt,hEz,if_pos rfl]
   have hrw:=(takeE_zero hEz).2
   have HRP:Hid (rightB (pickP st vals chg inb (ownUpto (K:Int) (i:Int) vals.length))=true):=hide (right_pick hrw (by rw[HV.out];omega) _ _)
   have HPO:Hid ((pickP st vals chg inb (ownUpto (K:Int) (i:Int) vals.length)).own.length≤60):=hide (by have:=own_short (K:Int) (i:Int) vals.length;rw[HV.out] at this ⊢;show (ownUpto _ _ _).length≤60;omega)
   have HGT:Hid ((gots st vals chg inb K K)[i]?=some (nmS (pickP st vals chg inb (ownUpto (K:Int) (i:Int) vals.length)))):=hide (gots_get hlt)
   rw[hEz,hTP] at hcl
   clear hEz hTP hrw hE hE0
   obtain⟨p1,hp1⟩:∃p,(pickP st vals chg inb (ownUpto (K:Int) (i:Int) vals.length))=p:=⟨_,rfl⟩
   rw[hp1] at hcl HRP HPO HGT
   clear hp1
   have HCL:=hide hcl
   clear hcl
   go_wp2_with fail
   refine HCL.out.mono ?_
   rintro e z ⟨no1,nv1,nc1,ni1,Ao1,co1,Av1,cv1,Ac1,cc1,Ai1,ci1,hsl,hno,rfl,hsi,hz⟩
   have HSL:=hide hsl
   have HZ:=hide (hbr.out.trans (hz.mono srw))
   have HMz:=hide (hM.out.next hz)
   have HSI:=hide hsi
   clear hsl hsi hz HCL hM hbr x0 x1 x2 x3 x4 x5
   have szz:=HZ.out.size
   have hno1:no1≤60:=by have:=HPO.out;have:=HSL.out.1;omega
   obtain⟨z1,hz1⟩:∃y,z.alloc (.cells #[.int .i64 p1.step,.slice Ao1 no1 co1,.slice Av1 nv1 cv1,.slice Ac1 nc1 cc1,.slice Ai1 ni1 ci1] 42)=y:=⟨_,rfl⟩
   have HB1:=hide (show Below z.heap.size z z1 by rw[←hz1];exact (Below.refl _ _).alloc (Nat.le_refl _) _)
   have hT1:z1.heap[z.heap.size]?=some (.cells #[.int .i64 p1.step,.slice Ao1 no1 co1,.slice Av1 nv1 cv1,.slice Ac1 nc1 cc1,.slice Ai1 ni1 ci1] 42):=by rw[←hz1];exact heap_alloc_last _ _
   have HZe:=hide hz1
   have hbt:z.heap.size<z1.heap.size:=by rw[←hz1];simp
   clear hz1
   go_upto_region 11 with fail
   rw[HZe.out]
   obtain⟨bq,hbq⟩:∃y,z.heap.size=y:=⟨_,rfl⟩
   rw[hbq] at hT1 hbt ⊢
   clear HZe
   have HT1e:=hide hbq
   clear hbq
   obtain⟨t0,t1,t2,t3,t4⟩:=zr5 hT1
   clear hT1
   have HC1:=hide (HZ.out.trans (HB1.out.mono szz))
   have HM1:=hide (HMz.out.next HB1.out)
   have hpt:=sput_ok z1 p1 Ao1 Av1 Ac1 Ai1 no1 nv1 nc1 ni1 co1 cv1 cc1 ci1 HSL.out (by omega) (HSI.out.next HB1.out) HRP.out
   have HCL:=hide hpt
   clear hpt HMz
   go_wp2_with fail
   refine HCL.out.mono ?_
   rintro e z2 ⟨Ab,cb,nb,hnb,rfl,hrb,hcb1,hcb2,hz⟩
   have HNB:=hide hnb
   have HRB:=hide hrb
   have hnb6:nb≤1000000:=by rw[←hnb];exact put_short p1 HPO.out
   have HC2:=hide (HC1.out.trans (hz.mono HC1.out.size))
   have HM2:=hide (HM1.out.next hz)
   clear hnb hrb hz HCL HM1 t0 t1 t2 t3 t4
   have hgt:=sgetN_any z2 Ab (putB p1) nb cb HNB.out HRB.out hnb6
   rw[show getP (putB p1)=nmS p1 by simp[getP,getF_put HRP.out HPO.out],show getE (putB p1)=0 by simp[getE,getF_put HRP.out HPO.out]] at hgt
   obtain⟨p2,hp2⟩:∃p,nmS p1=p:=⟨_,rfl⟩
   rw[hp2] at hgt HGT
   have HRP2:Hid (rightB p2=true):=hide (by rw[←hp2,rightB_nm];exact HRP.out)
   have HPO2:Hid (p2.own.length≤60):=hide (by rw[←hp2];exact HPO.out)
   have HCL:=hide hgt
   clear hgt hp2
   go_wp2_with fail
   refine HCL.out.mono ?_
   rintro e z3 ⟨no2,nv2,nc2,ni2,Ao2,co2,Av2,cv2,Ac2,cc2,Ai2,ci2,hsl,hno,rfl,hsi,hz,w1,w2,w3,w4⟩
   have HSL2:=hide hsl
   have HPX:=hide (pvx_new (X:=(Value.slice Al i cl).ownBlock) HRP2.out HPO2.out hsl hsi w1 w2 w3 w4 co2 cv2 cc2 ci2 (fun g hg=>by obtain⟨xs,ho,_⟩:=HM2.out;exact (ho.lt g hg).2))
   have HC3:=hide (HC2.out.trans (hz.mono HC2.out.size))
   have HM3:=hide (HM2.out.next hz)
   have szz3:=HC3.out.size
   clear hsl hsi hz HCL HM2 w1 w2 w3 w4
   obtain⟨z4,hz4⟩:∃y,z3.alloc (.cells #[.int .i64 p2.step,.slice Ao2 no2 co2,.slice Av2 nv2 cv2,.slice Ac2 nc2 cc2,.slice Ai2 ni2 ci2] 42)=y:=⟨_,rfl⟩
   have HB4:=hide (show Below z3.heap.size z3 z4 by rw[←hz4];exact (Below.refl _ _).alloc (Nat.le_refl _) _)
   have hT4:z4.heap[z3.heap.size]?=some (.cells #[.int .i64 p2.step,.slice Ao2 no2 co2,.slice Av2 nv2 cv2,.slice Ac2 nc2 cc2,.slice Ai2 ni2 ci2] 42):=by rw[←hz4];exact heap_alloc_last _ _
   have HZe:=hide hz4
   have hbt4:z3.heap.size<z4.heap.size:=by rw[←hz4];simp
   clear hz4
   go_upto_region 13 with fail
   rw[HZe.out]
   obtain⟨b4,hb4⟩:∃y,z3.heap.size=y:=⟨_,rfl⟩
   rw[hb4] at hT4 hbt4 ⊢
   clear HZe
   have HT4e:=hide hb4
   clear hb4
   obtain⟨t0,t1,t2,t3,t4⟩:=zr5 hT4
   clear hT4
   have HC4:=hide (HC3.out.trans (HB4.out.mono szz3))
   have HM4:=hide (HM3.out.next HB4.out)
   have szz4:=HC4.out.size
   obtain⟨xs,ho,hm⟩:=HM4.out
   have HO:=hide ho
   have HM:=hide hm
   clear ho hm HM4 HM3
   go_wp2_with (at_builtin;refine wpList_app rfl (.tmp 72) (.tmp 74) 52 rfl u.heap.size 42 a1 (.agg #[.int .i64 0,.slice none 0 0,.slice none 0 0,.slice none 0 0,.slice none 0 0]) 5 104 Tryz.underlying52 a1i a1z a1s a1b rfl (by decide) (.slice Al i cl) i _ rfl (HO.out.alloc _) (z4.heap.size+1) (some ⟨z4.heap.size,0,none⟩) 1 1 [.int .i64 p2.step,.slice Ao2 no2 co2,.slice Av2 nv2 cv2,.slice Ac2 nc2 cc2,.slice Ai2 ni2 ci2] rfl rfl (Rd.new _ _ _ _) (by simp[Value.oneCell']) (by unfold maxLen;omega) (by omega) (by simp;omega) ?_)
   intro A' c' v own hg hat
   have HBA:=hide (show Below z4.heap.size z4 (z4.alloc (.cells #[.int .i64 p2.step,.slice Ao2 no2 co2,.slice Av2 nv2 cv2,.slice Ac2 nc2 cc2,.slice Ai2 ni2 ci2] 42)) from (Below.refl _ _).alloc (Nat.le_refl _) _)
   have HV4:=hide (app_below (HC4.out.alloc szz4 (.cells #[.int .i64 p2.step,.slice Ao2 no2 co2,.slice Av2 nv2 cv2,.slice Ac2 nc2 cc2,.slice Ai2 ni2 ci2] 42)) (HO.out.alloc _) hg (by simp;omega) (Nat.le_refl _))
   have HMv:Hid (MWR u.heap.size v (gots st vals chg inb K K) A' (i+1) c'):=hide ⟨_,own,MW.snoc (fun q p hq hp=>by obtain⟨cs,k1,k2,k3⟩:=HM.out q p hq hp;exact⟨cs,k1,k2.next HBA.out,k3⟩) hg (by rw[World.size_alloc];exact hat) HO.out.1 HGT.out rfl ((HPX.out.next HB4.out).next HBA.out)⟩
   clear own hg hat HO HM t0 t1 t2 t3 t4
   go_wp2
   go_roundw
   case rel=>exact⟨i+1,_,_,by omega,by go_num,rfl,HMv,hide (.inr HEz.out),HV4⟩
   case measure=>simp[intOf];omega
  obtain rfl:K=i:=by omega
  have hEz:takeE st vals chg inb (K:Int) 0=0:=by rcases hE.out with h | h;exact absurd h (by omega);exact h
  obtain⟨hv1,hrw⟩:=takeE_zero hEz
  obtain⟨hl2,hl3⟩:=right_whole_lens hrw
  have hn2:n2=V:=by rw[←HC.out,←HV.out];exact hl2
  have hn3:n3=V:=by rw[←HI.out,←HV.out];exact hl3
  subst hn2
  subst hn3
  obtain⟨VV,rfl⟩:∃z,z=n3:=⟨_,rfl⟩
  have hv60:vals.length≤60:=by rw[HV.out];omega
  have HROW:Hid (PRow wr Al (gots st vals chg inb K K)):=hide (by obtain⟨xs,h1,h2⟩:=hM.out;exact MWR.row (B:=u.heap.size) (c:=cl) (by rw[gots_len];exact⟨xs,h1,h2⟩))
  have HOK:Hid (okJ (gots st vals chg inb K K)):=hide (ok_gots hK1 hK2 hv60 hv1 hrw)
  have HRS:=hide (rows_gots hK1 hK2 hv60 hv1 hrw)
  have HST:Hid (stepJ (gots st vals chg inb K K)=st):=hide (step_gots hK1)
  have HNA:Hid (nAll (gots st vals chg inb K K)=VV):=hide ((nAll_gots hK1 hK2 hv60).trans HV.out)
  have HOW:Hid (∀p∈(gots st vals chg inb K K),p.own.length≤60):=hide (fun p hp=>by obtain⟨q,hq,rfl⟩:=List.getElem_of_mem hp;obtain⟨h1,h2⟩:=gots_of (List.getElem?_eq_getElem hq);rw[h2];exact Nat.le_trans (own_short _ _ _) hv60)
  have HLEN:Hid ((gots st vals chg inb K K).length=K):=hide (gots_len K)
  obtain⟨ps,hps⟩:∃l,(gots st vals chg inb K K)=l:=⟨_,rfl⟩
  rw[hps] at HROW HOK HRS HST HNA HOW HLEN
  rw[HV.out] at HRS
  have HBR:=hide hbr.out
  clear hM hE hbr hEz hv1 hrw hl2 hl3 hps hlt
  have HJ:=hide (sjoin_any wr Al ps K cl HLEN.out hK2 HROW.out HOW.out)
  obtain⟨u0,rfl⟩:∃z:World,z=wr:=⟨_,rfl⟩
  go_wp2_with fail
  refine HJ.out.mono ?_
  clear HJ
  rintro e w1 hj
  have HJA:=hide hj
  clear hj
  rcases HJA.out with ⟨-,B1,B2,B3,d1,d2,d3,rfl,q1,q2,q3,hb1⟩ | ⟨hno,-,-⟩
  rotate_left
  ·exact absurd HOK.out hno
  rw[HST.out,HNA.out]
  rw[HNA.out,HRS.out.1] at q1
  rw[HNA.out,HRS.out.2.1] at q2
  rw[HNA.out,HRS.out.2.2] at q3
  have Q1:=hide q1
  have Q2:=hide q2
  have Q3:=hide q3
  have HB1:=hide hb1
  have sw1:=hb1.size
  clear q1 q2 q3 hb1 HJA
  obtain⟨w2,hw2⟩:∃z,w1.alloc (.cells #[.int .i64 st,.slice B1 VV d1,.slice B2 VV d2,.slice B3 VV d3,.int .i64 0,.int .i64 0] 33)=z:=⟨_,rfl⟩
  have hT:w2.heap[w1.heap.size]?=some (.cells #[.int .i64 st,.slice B1 VV d1,.slice B2 VV d2,.slice B3 VV d3,.int .i64 0,.int .i64 0] 33):=by rw[←hw2];exact heap_alloc_last _ _
  have HB2:=hide (show Below w1.heap.size w1 w2 by rw[←hw2];exact (Below.refl _ _).alloc (Nat.le_refl _) _)
  have HW2:=hide hw2
  have hbt:w1.heap.size<w2.heap.size:=by rw[←hw2];simp
  clear hw2
  go_upto_region 17 with fail
  rw[HW2.out]
  obtain⟨T,hTe⟩:∃z,w1.heap.size=z:=⟨_,rfl⟩
  rw[hTe] at hT hbt ⊢
  have HTE:=hide hTe
  clear HW2 hTe
  have HWT:=hide hT
  have M02:=hide ((HB2.out.block w.heap.size (by have:=HBR.out.size;omega)).trans ((HB1.out.block w.heap.size (by have:=HBR.out.size;omega)).trans ((HBR.out.block _ hzu).trans M0.out)))
  obtain⟨t0,t1,t2,t3,t4,t5⟩:=zr6 hT
  have zq:=zf hT;have tf4:=zq 4;have tf5:=zq 5;clear zq
  clear hT
  have hTw:Hid (w.heap.size≠T):=hide (by have:=HBR.out.size;have:=sw1;have:=HTE.out;omega)
  have x4:w2.cell? ⟨w.heap.size,4,none⟩=some (.int .i64 sm):=cell_of_row _ _ 4 _ _ _ M02.out
  have x5:w2.cell? ⟨w.heap.size,5,none⟩=some (.int .i64 mo):=cell_of_row _ _ 5 _ _ _ M02.out
  have hnT:=hTw.out
  have hF1:=heap_setCell_same w2 T 4 _ _ (.int .i64 sm) HWT.out
  have hF2:=heap_setCell_same _ T 5 _ _ (.int .i64 mo) hF1
  obtain⟨f,hf⟩:∃f,(w2.setCell ⟨T,4,none⟩ (.int .i64 sm)).setCell ⟨T,5,none⟩ (.int .i64 mo)=f:=⟨_,rfl⟩
  have HF:=hide hf
  rw[hf] at hF2
  have HFo:Hid (∀b,b≠T→f.heap[b]?=w2.heap[b]?):=hide (fun b hb=>by rw[←hf,Below.heap_setCell _ _ _ _ hb,Below.heap_setCell _ _ _ _ hb])
  have HFs:Hid (f.heap.size=w2.heap.size):=hide (by rw[←hf];simp only[World.size_setCell])
  have HFb:Hid (Below u.heap.size u f):=hide (by rw[←hf];exact ((((HBR.out.trans (HB1.out.mono HBR.out.size)).trans (HB2.out.mono (by have:=HBR.out.size;omega))).setCell (p:=⟨T,4,none⟩) (by have:=HBR.out.size;have:=HTE.out;show u.heap.size≤T;omega) _).setCell (p:=⟨T,5,none⟩) (by have:=HBR.out.size;have:=HTE.out;show u.heap.size≤T;omega) _))
  have HFT:=hide hF2
  clear hf hF1 hF2
  go_upto_region 19 with fail
  rw[HF.out]
  clear t0 t1 t2 t3 t4 t5 tf4 tf5 x4 x5 HF
  obtain⟨y0,y1,y2,y3,y4,y5⟩:=zr6 HFT.out
  obtain⟨x0,x1,x2,x3,x4,x5⟩:=zr6 ((HFo.out _ hTw.out).trans M02.out)
  have LV:=hide (show vals.length=VV∧chg.length=VV∧inb.length=VV from ⟨HV.out,HC.out,HI.out⟩)
  have F1:=hide (far_rd Q1.out HTE.out HB2.out HFo.out HFs.out)
  have F2:=hide (far_rd Q2.out HTE.out HB2.out HFo.out HFs.out)
  have F3:=hide (far_rd Q3.out HTE.out HB2.out HFo.out HFs.out)
  have HFk:=HFb.out
  have G1:=hide (R1.out.next HFb.out)
  have G2:=hide (R2.out.next HFb.out)
  have G3:=hide (R3.out.next HFb.out)
  have HCL:=hide (rtsame_any f st sm mo B1 B2 B3 A1 A2 A3 VV VV VV d1 d2 d3 c1 c2 c3 vals chg (inb.map nmA) inb LV.out.1 LV.out.2.1 (by rw[List.length_map];exact LV.out.2.2) LV.out.2.2 (by omega) (by omega) (by omega) (by rw[List.map_map];rw[show (nmA∘nmA)=nmA from funext fun m=>nm_nm m];exact eqL_self _) F1.out F2.out F3.out G1.out G2.out G3.out)
  have hTf:T<f.heap.size:=by have:=HFs.out;omega
  have hwf:w.heap.size<f.heap.size:=by have:=HFk.size;omega
  clear HFk
  go_wp2_with fail
  refine HCL.out.mono ?_
  clear HCL
  rintro e w5 ⟨rfl,hz⟩
  have HB5:=hide (HFb.out.trans (hz.mono HFb.out.size))
  clear hz
  go_wp2_with fail
  refine (works_any _).mono ?_
  rintro e w6 ⟨rfl,hz⟩
  have HFN:=hide (HBU.out.trans ((HB5.out.trans (hz.mono HB5.out.size)).mono (by omega)))
  clear hz x0 y0 x1 y1 x2 y2 x3 y3 x4 y4 x5 y5
  go_wp2
  go_ret
  exact⟨rfl,HFN.out⟩
theorem own_empty (w:World) (T:TypeId) (size:Nat):(w.alloc (.cells #[] T)).ownsRow w.heap.size T size (.slice (some ⟨w.heap.size,0,none⟩) 0 0) 0 []:=
 ⟨by simp,.inr ⟨w.heap.size,0,#[],rfl,Nat.le_refl _,heap_alloc_last _ _,Nat.le_refl _,Nat.zero_le _,by simp,by simp⟩⟩
theorem own_one (w:World) (T:TypeId) (v:Value):(w.alloc (.cells #[v] T)).ownsRow w.heap.size T 1 (.slice (some ⟨w.heap.size,0,none⟩) 1 1) 1 [v]:=
 ⟨by simp,.inr ⟨w.heap.size,1,#[v],rfl,Nat.le_refl _,heap_alloc_last _ _,Nat.le_refl _,by decide,by simp,by simp⟩⟩
def Same1 (g:Nat) (w w':World):Prop:=w.heap.size≤w'.heap.size∧∀b,b≠g→b<w.heap.size→w'.heap[b]?=w.heap[b]?
theorem Same1.own {g:Nat} {w w':World} (h:Same1 g w w') {b size n:Nat} {e:TypeId} {v:Value} {xs:List Value} (ho:w.ownsRow b e size v n xs) (hg:g<b):w'.ownsRow b e size v n xs:=by
 refine⟨ho.1,ho.2.imp id ?_⟩
 rintro ⟨k,cap,cur,h1,h2,h3,h4⟩
 exact⟨k,cap,cur,h1,h2,by rw[h.2 k (by omega) (Array.getElem?_eq_some_iff.1 h3).1];exact h3,h4⟩
theorem Same1.kept {g:Nat} {v w w':World} (h:Same1 g w w') (hk:Below v.heap.size v w) (hg:v.heap.size≤g):Kept v w':=fun p hp=>by
 rw[World.cell?_of_block (h.2 p.block (by omega) (by have:=hk.size;omega))]
 exact hk.cell hp
theorem Same1.refl (g:Nat) (w:World):Same1 g w w:=⟨Nat.le_refl _,fun _ _ _=>rfl⟩
def KtMid (y:World) (T g:Nat) (wc:World):Prop:=∃(C:Array Value) (p:SPart),C.size=5∧wc.heap[T]?=some (.cells C 42)∧(∀w',Same1 g wc w'→PVal w' C.toList p)∧Below y.heap.size y wc
def cutsP (s:SV) (k:Nat):List SPart:=(List.range k).map fun (i:Nat)=>takeP s.st s.vals s.chg s.inb (k:Int) (i:Int)
theorem cutsP_len (s:SV) (k:Nat):(cutsP s k).length=k:=by simp[cutsP]
theorem cutsP_get {s:SV} {k q:Nat} (h:q<k):(cutsP s k)[q]?=some (takeP s.st s.vals s.chg s.inb (k:Int) (q:Int)):=by simp[cutsP,h]
theorem take_lens (st:Int) (vals:List Int) (chg:List Bool) (inb:List Ml) (n k:Int):(takeP st vals chg inb n k).vals.length=(takeP st vals chg inb n k).own.length∧(takeP st vals chg inb n k).chg.length=(takeP st vals chg inb n k).own.length∧(takeP st vals chg inb n k).inb.length=(takeP st vals chg inb n k).own.length:=by
 unfold takeP
 split
 ·simp[pickP,pv,pc,pm]
 simp
theorem mw_one {w:World} {X:Option Nat} {xs:List Value} {ps:List SPart} (hm:MW w X xs ps ps.length) (hx:xs.length=ps.length*5):∀u∈xs,u.oneCell'=true:=by
 intro u hu
 obtain⟨i,hi⟩:=List.getElem?_of_mem hu
 have hl:=(List.getElem?_eq_some_iff.1 hi).1
 have hq:i / 5<ps.length:=by omega
 obtain⟨cs,h1,⟨Ao,Av,Ac,Ai,no,nv,nc,ni,co,cv,cc,ci,rfl,_⟩,h3⟩:=hm (i / 5) _ hq (List.getElem?_eq_getElem hq)
 have hii:i / 5*5+i % 5=i:=by omega
 rcases (show i % 5=0∨i % 5=1∨i % 5=2∨i % 5=3∨i % 5=4 by omega) with e | e | e | e | e
 all_goals
  have h4:=h3 (i % 5) _ (by rw[e];rfl)
  rw[hii,hi] at h4
  injection h4 with h4
  rw[h4]
  rfl
theorem row_five {wc:World} {b g k c a:Nat} {xs:List Value} (ho:wc.ownsRow b 42 5 (.slice (some ⟨g,0,none⟩) k c) k xs) (u0 u1 u2 u3 u4:Value) (ha:a<k) :
  ∃w6,(((((wc.setCell ⟨g,a*5,none⟩ u0).setCell ⟨g,a*5+1,none⟩ u1).setCell ⟨g,a*5+2,none⟩ u2).setCell ⟨g,a*5+3,none⟩ u3).setCell ⟨g,a*5+4,none⟩ u4)=w6∧Same1 g wc w6∧w6.heap.size=wc.heap.size∧(∀(v:World) (B:Nat),Below B v wc→B≤g→Below B v w6) ∧
   ∀(ps:List SPart) (p':SPart),ps.length=k→(∀(q:Nat) (p:SPart),q≠a→ps[q]?=some p→∃cs:List Value,cs.length=5∧PVal w6 cs p∧∀j u,cs[j]?=some u→xs[q*5+j]?=some u)→PVal w6 [u0,u1,u2,u3,u4] p'→PRow w6 (some ⟨g,0,none⟩) (ps.set a p'):=by
 have o1:=(ho.stored (a*5) u0).1
 have o2:=(o1.stored (a*5+1) u1).1
 have o3:=(o2.stored (a*5+2) u2).1
 have o4:=(o3.stored (a*5+3) u3).1
 have o6:=(o4.stored (a*5+4) u4).1
 have hx:=ho.1
 refine⟨_,rfl,⟨by simp only[World.size_setCell];exact Nat.le_refl _,fun b' hb _=>by iterate 5 rw[Below.heap_setCell _ _ _ _ hb]⟩,by simp only[World.size_setCell],fun v B hv hB=>((((hv.setCell (p:=⟨g,a*5,none⟩) hB _).setCell (p:=⟨g,a*5+1,none⟩) hB _).setCell (p:=⟨g,a*5+2,none⟩) hB _).setCell (p:=⟨g,a*5+3,none⟩) hB _).setCell (p:=⟨g,a*5+4,none⟩) hB _,fun ps p' hl hq hp hn=>?_⟩
 refine⟨g,0,rfl,(o6.lt g rfl).2,fun i x hxx=>?_⟩
 rw[List.getElem?_set] at hxx
 by_cases hia:a=i
 ·subst hia
  rw[if_pos rfl,if_pos (by omega)] at hxx
  injection hxx with hxx
  subst hxx
  refine⟨[u0,u1,u2,u3,u4],rfl,hp,fun j u hu=>?_⟩
  have hj:j<5:=(List.getElem?_eq_some_iff.1 hu).1
  rw[Nat.zero_add,o6.cellAt (a*5+j) (by omega),←hu]
  rcases (show j=0∨j=1∨j=2∨j=3∨j=4 by omega) with rfl | rfl | rfl | rfl | rfl
  all_goals
   simp (disch:=omega) [List.getElem?_set,hx]
   try omega
 rw[if_neg hia] at hxx
 obtain⟨cs,h1,h2,h3⟩:=hq i x (fun e=>hia e.symm) hxx
 refine⟨cs,h1,h2,fun j u hu=>?_⟩
 have hj:=(List.getElem?_eq_some_iff.1 hu).1
 have hi:=(List.getElem?_eq_some_iff.1 hxx).1
 rw[Nat.zero_add,o6.cellAt (i*5+j) (by omega)]
 iterate 5 rw[List.getElem?_set_ne (by omega)]
 exact h3 j u hu
theorem PRow.tail {w:World} {b off:Nat} {ps:List SPart} (h:PRow w (some ⟨b,off,none⟩) ps):PRow w (some ⟨b,off+5,none⟩) (ps.drop 1):=fun hn=>by
 have hp:ps≠[]:=fun e=>by subst e;exact hn rfl
 obtain⟨b',off',e,hb,hc⟩:=h hp
 injection e with e
 injection e with e1 e2
 subst e1 e2
 refine⟨b,off+5,rfl,hb,fun i x hx=>?_⟩
 rw[List.getElem?_drop] at hx
 obtain⟨cs,h1,h2,h3⟩:=hc (1+i) x hx
 exact⟨cs,h1,h2,fun j u hu=>by rw[←h3 j u hu];congr 2;omega⟩
theorem sjw_any (w:World) (A:Option Addr) (ps:List SPart) (L c:Nat) (hL:ps.length=L) (hP:PRow w A ps) (hlc:L≤c) (hc:c≤9223372036854775807) :
  Calls Tryz.prog 14 #[.slice A L c] w fun e W'=>e = .returned (.bool true)∧Below w.heap.size w W':=by
 subst hL
 exact statesJoin_walk w A ps c hP hlc hc
theorem pvx_of {w:World} {X:Option Nat} {B:Nat} {p:SPart} {Ao Av Ac Ai:Option Addr} {no nv nc ni:Nat} (hl:SLen p no nv nc ni) (hi:SIn w p Ao Av Ac Ai) (w1:NewAA B Ao) (w2:NewAA B Av) (w3:NewAA B Ac) (w4:NewAA B Ai) (co cv cc ci:Nat) (hX:∀g,X=some g→g<B) (hb:no≤9223372036854775807∧nv≤9223372036854775807∧nc≤9223372036854775807∧ni≤9223372036854775807) :
  PVX w X [.int .i64 p.step,.slice Ao no co,.slice Av nv cv,.slice Ac nc cc,.slice Ai ni ci] p:=
 ⟨Ao,Av,Ac,Ai,no,nv,nc,ni,co,cv,cc,ci,rfl,hl,⟨.new hi.own w1 hX,.new hi.vals w2 hX,.new hi.chg w3 hX,.new hi.inb w4 hX⟩,hb⟩
theorem SIn.ofX {w:World} {X:Option Nat} {p:SPart} {Ao Av Ac Ai:Option Addr} (h:RdX w X Ao (i64s p.own)∧RdX w X Av (i64s p.vals)∧RdX w X Ac (bools p.chg)∧RdX w X Ai (mlFlat p.inb)):SIn w p Ao Av Ac Ai:=⟨h.1.1,h.2.1.1,h.2.2.1.1,h.2.2.2.1⟩
theorem take_few (st:Int) (vals:List Int) (chg:List Bool) (inb:List Ml) (n k:Int):(takeP st vals chg inb n k).own.length≤vals.length:=by
 unfold takeP
 split
 ·exact own_short _ _ _
 simp
theorem cuts_any (w:World) (s:SV) (A1 A2 A3:Option Addr) (V c1 c2 c3 k:Nat) (hV:V≤60) (hl:VLen s V V V) (hi:VIn w s A1 A2 A3) (hk1:1≤k) (hk:k≤64) :
  Calls Tryz.prog 7 #[.agg #[.int .i64 s.st,.slice A1 V c1,.slice A2 V c2,.slice A3 V c3,.int .i64 s.sm,.int .i64 s.mo],.int .i64 (k:Int)] w fun e w'=>e = .returned (.bool true)∧Below w.heap.size w w':=by
 obtain⟨u,hu⟩:∃u,w.alloc (.cells #[.int .i64 s.st,.slice A1 V c1,.slice A2 V c2,.slice A3 V c3,.int .i64 s.sm,.int .i64 s.mo] 33)=u:=⟨_,rfl⟩
 have hzl:w.heap.size<u.heap.size:=by rw[←hu];simp
 have HB:=hide (show Below w.heap.size w u by rw[←hu];exact (Below.refl _ _).alloc (Nat.le_refl _) _)
 have M0:=hide (show u.heap[w.heap.size]?=some (.cells #[.int .i64 s.st,.slice A1 V c1,.slice A2 V c2,.slice A3 V c3,.int .i64 s.sm,.int .i64 s.mo] 33) by rw[←hu];exact heap_alloc_last _ _)
 have HI:=hide (hi.next HB.out)
 have HL:=hide hl
 have HU:=hide hu
 clear hu hi hl
 obtain⟨a1,a1i,a1z,a1s,a1b⟩:=info_parts (show (Tryz.prog.info? 42).map (fun i=>(i.zero,i.size,i.bytes))=some (some (.agg #[.int .i64 0,.slice none 0 0,.slice none 0 0,.slice none 0 0,.slice none 0 0]),5,104) by kernel_rfl)
 obtain⟨a2,a2i,a2z,a2s,a2b⟩:=info_parts (show (Tryz.prog.info? 4).map (fun i=>(i.zero,i.size,i.bytes))=some (some (.bool false),1,1) by kernel_rfl)
 go_enter Tryz.func7,Tryz.ntmps7
 go_upto_region 1 with fail
 rw[HU.out]
 go_wp2
 go_loopw [6,5] (fun v6 v5 wr=>∃(q:Nat) (Am:Option Addr) (cm:Nat),q≤k∧v6 = .int .i64 (q:Int)∧v5 = .slice Am q cm∧Hid (MWR u.heap.size wr (cutsP s k) Am q cm)∧Hid (Below u.heap.size u wr)) (fun v6 _ _=>k-(intOf v6).toNat)
 case atStart=>exact⟨0,none,0,by omega,rfl,rfl,hide (MWR.zero _ _ _),hide (Below.refl _ _)⟩
 case round=>
  obtain⟨q,Am,cm,hq,rfl,rfl,hM,hbr⟩:=hrel
  have svr:u.heap.size≤wr.heap.size:=hbr.out.size
  have MG:Hid (wr.heap[w.heap.size]?=some (.cells #[.int .i64 s.st,.slice A1 V c1,.slice A2 V c2,.slice A3 V c3,.int .i64 s.sm,.int .i64 s.mo] 33)):=hide ((hbr.out.block _ hzl).trans M0.out)
  by_cases hlt:q<k
  ·obtain⟨s0,s1,s2,s3,s4,s5⟩:=zr6 MG.out
   have hgl:w.heap.size<wr.heap.size:=by omega
   have HIr:=hide (HI.out.next hbr.out)
   have hI1:(q:Int)<(k:Int):=by omega
   go_wp2_with fail
   refine (stakeN_any wr s.st s.sm s.mo A1 A2 A3 V V V c1 c2 c3 s.vals s.chg s.inb (k:Int) (q:Int) hV HL.out.1 HL.out.2.1 HL.out.2.2 HIr.out.vals HIr.out.chg HIr.out.inb).mono ?_
   rintro e z ⟨no,nv,nc,ni,Ao,co,Av,cv,Ac,cc,Ai,ci,hlen,hno,rfl,hin,hz,n1,n2,n3,n4⟩
   have hls:=take_lens s.st s.vals s.chg s.inb (k:Int) (q:Int)
   obtain⟨p,hp⟩:∃p,takeP s.st s.vals s.chg s.inb (k:Int) (q:Int)=p:=⟨_,rfl⟩
   have HCu:Hid ((cutsP s k)[q]?=some p):=hide (by rw[cutsP_get hlt,hp])
   rw[hp] at hlen hin hls ⊢
   have HBd:Hid (no≤9223372036854775807∧nv≤9223372036854775807∧nc≤9223372036854775807∧ni≤9223372036854775807):=hide (by obtain⟨e1,e2,e3,e4⟩:=hlen;omega)
   have HLen:=hide hlen
   have HIn:=hide hin
   have HNw:=hide (And.intro n1 (And.intro n2 (And.intro n3 n4)))
   have HBz:=hide (hbr.out.trans (hz.mono svr))
   have szz:wr.heap.size≤z.heap.size:=hz.size
   have HMz:=hide (hM.out.next hz)
   have HXl:Hid (∀g,(Value.slice Am q cm).ownBlock=some g→g<wr.heap.size):=hide (fun g hg=>by obtain⟨xs,ho,_⟩:=hM.out;exact (ho.lt g hg).2)
   clear hp hlen hin hls hz n1 n2 n3 n4 s0 s1 s2 s3 s4 s5 hM hbr hno
   obtain⟨t,ht⟩:∃x,z.alloc (.cells #[.int .i64 p.step,.slice Ao no co,.slice Av nv cv,.slice Ac nc cc,.slice Ai ni ci] 42)=x:=⟨_,rfl⟩
   have HT:Hid (t.heap[z.heap.size]?=some (.cells #[.int .i64 p.step,.slice Ao no co,.slice Av nv cv,.slice Ac nc cc,.slice Ai ni ci] 42)):=hide (by rw[←ht];exact heap_alloc_last _ _)
   have HZt:Hid (Below z.heap.size z t):=hide (by rw[←ht];exact (Below.refl _ _).alloc (Nat.le_refl _) _)
   have HTe:=hide ht
   clear ht
   obtain⟨T,hT⟩:∃T,z.heap.size=T:=⟨_,rfl⟩
   have HTz:=hide hT
   rw[hT] at HT
   clear hT
   go_upto_region 6 with fail
   rw[HTe.out,HTz.out]
   clear HTe
   have hTt:T<t.heap.size:=(Array.getElem?_eq_some_iff.1 HT.out).1
   obtain⟨c0,c1,c2,c3,c4⟩:=zr5 HT.out
   have HInt:=hide (HIn.out.next HZt.out)
   have HBt:=hide (HBz.out.trans (HZt.out.mono (Nat.le_trans svr szz)))
   have svt:u.heap.size≤t.heap.size:=HBt.out.size
   obtain⟨xs,ho,hm⟩:=(HMz.out.next HZt.out)
   have HOw:=hide ho
   have HMr:=hide hm
   clear ho hm HMz
   have hbt1:Below t.heap.size t (t.alloc (.cells #[.int .i64 p.step,.slice Ao no co,.slice Av nv cv,.slice Ac nc cc,.slice Ai ni ci] 42)):=(Below.refl _ _).alloc (Nat.le_refl _) _
   have HBT1:=hide hbt1
   have hown1:(t.alloc (.cells #[.int .i64 p.step,.slice Ao no co,.slice Av nv cv,.slice Ac nc cc,.slice Ai ni ci] 42)).ownsRow u.heap.size 42 5 (.slice Am q cm) q xs:=own_below HOw.out hbt1 (fun g hg=>(HOw.out.lt g hg).2)
   clear hbt1
   go_wp2_with (at_builtin;refine wpList_app rfl (.tmp 25) (.tmp 27) 52 rfl u.heap.size 42 a1 (.agg #[.int .i64 0,.slice none 0 0,.slice none 0 0,.slice none 0 0,.slice none 0 0]) 5 104 Tryz.underlying52 a1i a1z a1s a1b rfl (by decide) (.slice Am q cm) q xs rfl hown1 (t.heap.size+1) (some ⟨t.heap.size,0,none⟩) 1 1 [.int .i64 p.step,.slice Ao no co,.slice Av nv cv,.slice Ac nc cc,.slice Ai ni ci] rfl rfl (Rd.new _ _ _ _) (by simp[Value.oneCell']) (by unfold maxLen;omega) (by omega) (by simp;omega) ?_)
   intro A' c' y own hg hat
   have HMy:Hid (MWR u.heap.size y (cutsP s k) A' (q+1) c'):=hide ⟨_,own,MW.snoc (fun q p hq hp=>by obtain⟨cs,a1,a2,a3⟩:=HMr.out q p hq hp;exact⟨cs,a1,a2.next HBT1.out,a3⟩) hg (by rw[World.size_alloc];exact hat) HOw.out.1 HCu.out rfl (pvx_of HLen.out (HInt.out.next HBT1.out) HNw.out.1 HNw.out.2.1 HNw.out.2.2.1 HNw.out.2.2.2 co cv cc ci HXl.out HBd.out)⟩
   have HY:=hide (app_below (HBt.out.alloc svt _) hown1 hg (by simp;omega) (Nat.le_refl _))
   clear own hg hat hown1 HOw HMr HInt HBt HT HBz HIn HZt HBT1 c0 c1 c2 c3 c4
   go_wp2
   go_roundw
   case rel=>exact⟨q+1,A',c',by omega,by go_num,rfl,HMy,HY⟩
   case measure=>simp[intOf];omega
  obtain rfl:k=q:=by omega
  obtain⟨v2,rfl⟩:∃z:World,z=wr:=⟨_,rfl⟩
  have HUb:=hbr
  obtain⟨xs,ho,hm⟩:=hM.out
  have HRl:Hid (PRow v2 Am (cutsP s k)):=hide (MWR.row (c:=cm) (by rw[cutsP_len];exact hM.out))
  obtain⟨gl,rfl,hgl1,hgl2,hkc⟩:=own_addr ho (by omega)
  have hcm:cm≤9223372036854775807:=own_max ho
  have HXl:=hide ho.1
  have HOl:=hide ho
  have HMl:=hide hm
  have HX1:Hid (∀u∈xs,u.oneCell'=true):=hide (mw_one (ps:=(cutsP s k)) (by rw[cutsP_len];exact hm) (by rw[cutsP_len];exact ho.1))
  have HRx:=hide (Rd.of_own ho)
  clear ho hm hM hbr hlt hq MG
  go_wp2
  go_loopw [9] (fun v9 wr=>∃a:Nat,a≤k∧v9 = .int .i64 (a:Int)∧Hid (Below v2.heap.size v2 wr)) (fun v9 _=>k-(intOf v9).toNat)
  case atStart=>exact⟨0,by omega,rfl,hide (Below.refl _ _)⟩
  case round=>
   obtain⟨a,ha,rfl,hba⟩:=hrel
   have sva:v2.heap.size≤wr.heap.size:=hba.out.size
   by_cases hlta:a<k
   ·have hA1:(a:Int)<(k:Int):=by omega
    have hA0:(0:Int)≤(a:Int):=by omega
    obtain⟨wa,rfl⟩:∃z:World,z=wr:=⟨_,rfl⟩
    go_wp2
    go_loopw [10] (fun v10 wr=>∃n:Nat,n≤6∧v10 = .int .i64 (n:Int)∧Hid (Below v2.heap.size v2 wr)) (fun v10 _=>6-(intOf v10).toNat)
    case atStart=>exact⟨0,by omega,rfl,hba⟩
    case round=>
     clear hba
     obtain⟨n,hn,rfl,hbr⟩:=hrel
     have svr:v2.heap.size≤wr.heap.size:=hbr.out.size
     by_cases hltn:n<6
     ·have hN1:(n:Int)<6:=by omega
      have hbe:Below wr.heap.size wr (wr.alloc (.cells #[] 42)):=(Below.refl _ _).alloc (Nat.le_refl _) _
      have HBe:=hide (hbr.out.trans (hbe.mono svr))
      have HXl2:=HXl.out
      go_wp2_with (at_builtin;refine wpList_app rfl (.tmp 38) (.tmp 39) 52 rfl wr.heap.size 42 a1 (.agg #[.int .i64 0,.slice none 0 0,.slice none 0 0,.slice none 0 0,.slice none 0 0]) 5 104 Tryz.underlying52 a1i a1z a1s a1b rfl (by decide) (.slice (some ⟨wr.heap.size,0,none⟩) 0 0) 0 [] rfl (own_empty wr 42 5) v2.heap.size (some ⟨gl,0,none⟩) k cm xs rfl HXl2 (HRx.out.keep fun p hp=>HBe.out.cell hp) HX1.out (by unfold maxLen;omega) (by omega) (by simp) ?_)
      intro A' c' y own hg hat
      try rw[Nat.zero_add] at own
      try rw[List.nil_append] at own
      have hby:=app_below (B:=v2.heap.size) HBe.out (own_empty wr 42 5) hg (by simp;omega) svr
      have HBy:=hide hby
      have syv:v2.heap.size≤y.heap.size:=hby.size
      obtain⟨g,rfl,hgb,hgl,hkc2⟩:=own_addr own (by omega)
      have hcm2:c'≤9223372036854775807:=own_max own
      have HOm:=hide own
      obtain⟨p,hp⟩:∃p,(cutsP s k)[a]?=some p:=⟨_,List.getElem?_eq_getElem (by rw[cutsP_len];exact hlta)⟩
      have HPa:=hide hp
      obtain⟨cs,hcs,hpo,hcx⟩:=HMl.out a p hlta hp
      obtain⟨Ao,Av,Ac,Ai,no,nv,nc,ni,co,cv,cc,ci,rfl,hlen,hrx,hbd⟩:=hpo
      have HLen:=hide hlen
      have HBd:=hide hbd
      have HPIN:=hide (SIn.ofX hrx)
      have hcell:∀j v,([.int .i64 p.step,.slice Ao no co,.slice Av nv cv,.slice Ac nc cc,.slice Ai ni ci]:List Value)[j]?=some v→y.cell? ⟨g,a*5+j,none⟩=some v:=fun j v hv=>by
        have h1:=hcx j v hv
        have h2:=(List.getElem?_eq_some_iff.1 h1).1
        rw[own.cellAt (a*5+j) (by have:=own.1;omega)];exact h1
      have d0:y.cell? ⟨g,a*5,none⟩=some (.int .i64 p.step):=hcell 0 _ rfl
      have d1:y.cell? ⟨g,a*5+1,none⟩=some (.slice Ao no co):=hcell 1 _ rfl
      have d2:y.cell? ⟨g,a*5+2,none⟩=some (.slice Av nv cv):=hcell 2 _ rfl
      have d3:y.cell? ⟨g,a*5+3,none⟩=some (.slice Ac nc cc):=hcell 3 _ rfl
      have d4:y.cell? ⟨g,a*5+4,none⟩=some (.slice Ai ni ci):=hcell 4 _ rfl
      obtain⟨ws,hws⟩:∃x,y.alloc (.cells #[.int .i64 p.step,.slice Ao no co,.slice Av nv cv,.slice Ac nc cc,.slice Ai ni ci] 42)=x:=⟨_,rfl⟩
      have HT:Hid (ws.heap[y.heap.size]?=some (.cells #[.int .i64 p.step,.slice Ao no co,.slice Av nv cv,.slice Ac nc cc,.slice Ai ni ci] 42)):=hide (by rw[←hws];exact heap_alloc_last _ _)
      have HYs:Hid (Below y.heap.size y ws):=hide (by rw[←hws];exact (Below.refl _ _).alloc (Nat.le_refl _) _)
      have HBs:Hid (Below v2.heap.size v2 ws):=hide (HBy.out.trans (HYs.out.mono syv))
      have hzs:y.heap.size<ws.heap.size:=by rw[←hws];simp
      have HWS:=hide hws
      obtain⟨T,hT⟩:∃T,y.heap.size=T:=⟨_,rfl⟩
      have HTe:=hide hT
      clear hws own hg hat hby hbe hp hcs hcx hlen hrx hbd hcell
      have hgT:g<T:=by omega
      have hTs:T<ws.heap.size:=by omega
      have hvg:v2.heap.size≤g:=by omega
      rw[hT] at HT
      have hyT:y.heap.size≤T:=by omega
      clear hzs hT
      go_upto_region 15 with fail
      rw[HWS.out]
      rw[HTe.out]
      clear HWS d0 d1 d2 d3 d4
      obtain⟨c0,c1,c2,c3,c4⟩:=zr5 HT.out
      have zq:=zf HT.out;have f0:=zq 0;have f1:=zq 1;have f2:=zq 2;have f3:=zq 3;have f4:=zq 4;clear zq
      go_upto_block 6 with fail
      go_cut [] (fun wc=>Hid (KtMid y T g wc))
      case first=>
       rcases (show n=0∨n=1∨n=2∨n=3∨n=4∨n=5 by omega) with rfl | rfl | rfl | rfl | rfl | rfl
       ·have HFin:Hid (KtMid y T g (ws.setCell ⟨T,0,none⟩ (.int .i64 (wrap64 (p.step+1))))):=hide (⟨#[.int .i64 (wrap64 (p.step+1)),.slice Ao no co,.slice Av nv cv,.slice Ac nc cc,.slice Ai ni ci],{ p with step:=wrap64 (p.step+1) },rfl,heap_setCell_same _ T 0 _ _ _ HT.out,fun w' hs=>⟨_,_,_,_,_,_,_,_,_,_,_,_,rfl,HLen.out,⟨(HPIN.out.kept (Same1.kept hs (HBs.out.setCell (p:=⟨T,0,none⟩) (by show v2.heap.size≤T;omega) (.int .i64 (wrap64 (p.step+1)))) hvg) (Nat.le_trans ((HBs.out.setCell (p:=⟨T,0,none⟩) (by show v2.heap.size≤T;omega) (.int .i64 (wrap64 (p.step+1))))).size hs.1)).own,(HPIN.out.kept (Same1.kept hs (HBs.out.setCell (p:=⟨T,0,none⟩) (by show v2.heap.size≤T;omega) (.int .i64 (wrap64 (p.step+1)))) hvg) (Nat.le_trans ((HBs.out.setCell (p:=⟨T,0,none⟩) (by show v2.heap.size≤T;omega) (.int .i64 (wrap64 (p.step+1))))).size hs.1)).vals,(HPIN.out.kept (Same1.kept hs (HBs.out.setCell (p:=⟨T,0,none⟩) (by show v2.heap.size≤T;omega) (.int .i64 (wrap64 (p.step+1)))) hvg) (Nat.le_trans ((HBs.out.setCell (p:=⟨T,0,none⟩) (by show v2.heap.size≤T;omega) (.int .i64 (wrap64 (p.step+1))))).size hs.1)).chg,(HPIN.out.kept (Same1.kept hs (HBs.out.setCell (p:=⟨T,0,none⟩) (by show v2.heap.size≤T;omega) (.int .i64 (wrap64 (p.step+1)))) hvg) (Nat.le_trans ((HBs.out.setCell (p:=⟨T,0,none⟩) (by show v2.heap.size≤T;omega) (.int .i64 (wrap64 (p.step+1))))).size hs.1)).inb⟩,HBd.out⟩,(HYs.out.setCell (p:=⟨T,0,none⟩) hyT (.int .i64 (wrap64 (p.step+1))))⟩)
        go_wp2
        go_meet
        case rel=>exact HFin
       ·have HFin:Hid (KtMid y T g (ws.setCell ⟨T,1,none⟩ (.slice none 0 0))):=hide (⟨#[.int .i64 p.step,.slice none 0 0,.slice Av nv cv,.slice Ac nc cc,.slice Ai ni ci],{ p with own:=[] },rfl,heap_setCell_same _ T 1 _ _ _ HT.out,fun w' hs=>⟨_,_,_,_,_,_,_,_,_,_,_,_,rfl,⟨rfl,HLen.out.2.1,HLen.out.2.2.1,HLen.out.2.2.2⟩,⟨Rd.nil_,(HPIN.out.kept (Same1.kept hs (HBs.out.setCell (p:=⟨T,1,none⟩) (by show v2.heap.size≤T;omega) (.slice none 0 0)) hvg) (Nat.le_trans ((HBs.out.setCell (p:=⟨T,1,none⟩) (by show v2.heap.size≤T;omega) (.slice none 0 0))).size hs.1)).vals,(HPIN.out.kept (Same1.kept hs (HBs.out.setCell (p:=⟨T,1,none⟩) (by show v2.heap.size≤T;omega) (.slice none 0 0)) hvg) (Nat.le_trans ((HBs.out.setCell (p:=⟨T,1,none⟩) (by show v2.heap.size≤T;omega) (.slice none 0 0))).size hs.1)).chg,(HPIN.out.kept (Same1.kept hs (HBs.out.setCell (p:=⟨T,1,none⟩) (by show v2.heap.size≤T;omega) (.slice none 0 0)) hvg) (Nat.le_trans ((HBs.out.setCell (p:=⟨T,1,none⟩) (by show v2.heap.size≤T;omega) (.slice none 0 0))).size hs.1)).inb⟩,⟨by omega,HBd.out.2.1,HBd.out.2.2.1,HBd.out.2.2.2⟩⟩,(HYs.out.setCell (p:=⟨T,1,none⟩) hyT (.slice none 0 0))⟩)
        go_wp2
        go_meet
        case rel=>exact HFin
       ·obtain⟨q0,hq0⟩:∃p,(cutsP s k)[0]?=some p:=⟨_,List.getElem?_eq_getElem (by rw[cutsP_len];omega)⟩
        obtain⟨cs,hcs,hpo,hcx⟩:=HMl.out 0 q0 (by omega) hq0
        obtain⟨Ao0,Av0,Ac0,Ai0,no0,nv0,nc0,ni0,co0,cv0,cc0,ci0,rfl,hlen0,hrx0,hbd0⟩:=hpo
        have hcell:∀j v,([.int .i64 q0.step,.slice Ao0 no0 co0,.slice Av0 nv0 cv0,.slice Ac0 nc0 cc0,.slice Ai0 ni0 ci0]:List Value)[j]?=some v→ws.cell? ⟨g,j,none⟩=some v:=fun j v hv=>by
          have h1:=hcx j v hv
          have h2:=(List.getElem?_eq_some_iff.1 h1).1
          have h3:y.cell? ⟨g,j,none⟩=some v:=by rw[HOm.out.cellAt j (by have:=HOm.out.1;omega)];simpa using h1
          exact (HYs.out.cell (p:=⟨g,j,none⟩) hgl).trans h3
        have d0:ws.cell? ⟨g,0,none⟩=some (.int .i64 q0.step):=hcell 0 _ rfl
        have d1:ws.cell? ⟨g,1,none⟩=some (.slice Ao0 no0 co0):=hcell 1 _ rfl
        have d2:ws.cell? ⟨g,2,none⟩=some (.slice Av0 nv0 cv0):=hcell 2 _ rfl
        have d3:ws.cell? ⟨g,3,none⟩=some (.slice Ac0 nc0 cc0):=hcell 3 _ rfl
        have d4:ws.cell? ⟨g,4,none⟩=some (.slice Ai0 ni0 ci0):=hcell 4 _ rfl
        have hgs:g<ws.heap.size:=by omega
        have hk0:(0:Int)<(k:Int):=by omega
        have hk0N:0<k:=by omega
        have HQin:=hide (SIn.ofX hrx0)
        clear hcell hcs hcx hrx0
        have HFin:Hid (KtMid y T g (((((ws.setCell ⟨T,0,none⟩ (.int .i64 q0.step)).setCell ⟨T,1,none⟩ (.slice Ao0 no0 co0)).setCell ⟨T,2,none⟩ (.slice Av0 nv0 cv0)).setCell ⟨T,3,none⟩ (.slice Ac0 nc0 cc0)).setCell ⟨T,4,none⟩ (.slice Ai0 ni0 ci0))):=hide (⟨#[.int .i64 q0.step,.slice Ao0 no0 co0,.slice Av0 nv0 cv0,.slice Ac0 nc0 cc0,.slice Ai0 ni0 ci0],q0,rfl,(heap_setCell_same _ T 4 _ _ (.slice Ai0 ni0 ci0) (heap_setCell_same _ T 3 _ _ (.slice Ac0 nc0 cc0) (heap_setCell_same _ T 2 _ _ (.slice Av0 nv0 cv0) (heap_setCell_same _ T 1 _ _ (.slice Ao0 no0 co0) (heap_setCell_same _ T 0 _ _ (.int .i64 q0.step) HT.out))))),fun w' hs=>⟨_,_,_,_,_,_,_,_,_,_,_,_,rfl,hlen0,(HQin.out.kept (Same1.kept hs (((((HBs.out.setCell (p:=⟨T,0,none⟩) (by show v2.heap.size≤T;omega) (.int .i64 q0.step)).setCell (p:=⟨T,1,none⟩) (by show v2.heap.size≤T;omega) (.slice Ao0 no0 co0)).setCell (p:=⟨T,2,none⟩) (by show v2.heap.size≤T;omega) (.slice Av0 nv0 cv0)).setCell (p:=⟨T,3,none⟩) (by show v2.heap.size≤T;omega) (.slice Ac0 nc0 cc0)).setCell (p:=⟨T,4,none⟩) (by show v2.heap.size≤T;omega) (.slice Ai0 ni0 ci0)) hvg) (Nat.le_trans ((((((HBs.out.setCell (p:=⟨T,0,none⟩) (by show v2.heap.size≤T;omega) (.int .i64 q0.step)).setCell (p:=⟨T,1,none⟩) (by show v2.heap.size≤T;omega) (.slice Ao0 no0 co0)).setCell (p:=⟨T,2,none⟩) (by show v2.heap.size≤T;omega) (.slice Av0 nv0 cv0)).setCell (p:=⟨T,3,none⟩) (by show v2.heap.size≤T;omega) (.slice Ac0 nc0 cc0)).setCell (p:=⟨T,4,none⟩) (by show v2.heap.size≤T;omega) (.slice Ai0 ni0 ci0))).size hs.1)),hbd0⟩,(((((HYs.out.setCell (p:=⟨T,0,none⟩) hyT (.int .i64 q0.step)).setCell (p:=⟨T,1,none⟩) hyT (.slice Ao0 no0 co0)).setCell (p:=⟨T,2,none⟩) hyT (.slice Av0 nv0 cv0)).setCell (p:=⟨T,3,none⟩) hyT (.slice Ac0 nc0 cc0)).setCell (p:=⟨T,4,none⟩) hyT (.slice Ai0 ni0 ci0))⟩)
        go_wp2
        go_meet
        case rel=>exact HFin
       ·have hbe1:Below ws.heap.size ws (ws.alloc (.cells #[.bool true] 4)):=(Below.refl _ _).alloc (Nat.le_refl _) _
        have HBe1:=hide hbe1
        have hrl:(bools p.chg).length=nc*1:=by simp[bools,HLen.out.2.2.1]
        have HRow:=hide (HPIN.out.chg.keep (fun q hq=>((HBs.out.trans (HBe1.out.mono (by have:=HBs.out.size;omega))).cell hq:(ws.alloc (.cells #[.bool true] 4)).cell? q=v2.cell? q)))
        have hnc:nc≤1000:=by have h1:=HLen.out;have h9:=HPa.out;rw[cutsP_get hlta] at h9;injection h9 with h9;have h8:=take_lens s.st s.vals s.chg s.inb (k:Int) (a:Int);rw[h9] at h8;have h7:=take_few s.st s.vals s.chg s.inb (k:Int) (a:Int);rw[h9] at h7;have:=HL.out.1;obtain⟨e1,e2,e3,e4⟩:=h1;omega
        go_wp2_with (at_builtin;first | (refine wpList_app rfl (.tmp 62) (.tmp 64) 30 rfl ws.heap.size 4 a2 (.bool false) 1 1 Tryz.underlying30 a2i a2z a2s a2b rfl (by decide) (.slice (some ⟨ws.heap.size,0,none⟩) 1 1) 1 [.bool true] rfl (own_one ws 4 (.bool true)) v2.heap.size Ac nc cc (bools p.chg) rfl hrl HRow.out (bools_one _) (by unfold maxLen;omega) (by omega) (by simp) ?_) | fail)
        intro A2 e2 y3 own3 hg3 hat3
        have hb3:=app_below (B:=ws.heap.size) HBe1.out (own_one ws 4 (.bool true)) hg3 (by simp) (Nat.le_refl _)
        have HT3:Hid (y3.heap[T]?=some (.cells #[.int .i64 p.step,.slice Ao no co,.slice Av nv cv,.slice Ac nc cc,.slice Ai ni ci] 42)):=hide ((hb3.block _ hTs).trans HT.out)
        have s3:ws.heap.size≤y3.heap.size:=hb3.size
        have t3:y3.cell? ⟨T,3,none⟩=some (.slice Ac nc cc):=cell_of_row _ _ 3 _ _ _ HT3.out
        have tf3:=zf HT3.out 3
        have hT3:T<y3.heap.size:=by omega
        have HO4:=hide (ownsRow_setCell_below own3 (a:=⟨T,3,none⟩) hTs (.slice A2 (1+nc) e2))
        have HB4y:=hide ((HYs.out.trans (hb3.mono (by have:=HYs.out.size;omega))).setCell (p:=⟨T,3,none⟩) hyT (.slice A2 (1+nc) e2))
        have HB4v:=hide (HBy.out.trans (HB4y.out.mono syv))
        clear hb3 own3 hg3 hat3 HRow
        clear c0 f0 c1 f1 c2 f2 c3 f3 c4 f4
        have HFin:Hid (KtMid y T g (y3.setCell ⟨T,3,none⟩ (.slice A2 (1+nc) e2))):=hide (⟨#[.int .i64 p.step,.slice Ao no co,.slice Av nv cv,.slice A2 (1+nc) e2,.slice Ai ni ci],{ p with chg:=true :: p.chg },rfl,heap_setCell_same _ T 3 _ _ _ HT3.out,fun w' hs=>⟨_,_,_,_,_,_,_,_,_,_,_,_,rfl,⟨HLen.out.1,HLen.out.2.1,by have:=HLen.out.2.2.1;simp;omega,HLen.out.2.2.2⟩,⟨(HPIN.out.kept (Same1.kept hs HB4v.out hvg) (Nat.le_trans (HB4v.out).size hs.1)).own,(HPIN.out.kept (Same1.kept hs HB4v.out hvg) (Nat.le_trans (HB4v.out).size hs.1)).vals,by have h9:=Rd.of_own (hs.own HO4.out (by omega));simpa [bools] using h9,(HPIN.out.kept (Same1.kept hs HB4v.out hvg) (Nat.le_trans (HB4v.out).size hs.1)).inb⟩,⟨HBd.out.1,HBd.out.2.1,by omega,HBd.out.2.2.2⟩⟩,HB4y.out⟩)
        go_wp2
        go_meet
        case rel=>exact HFin
       ·have HFin:Hid (KtMid y T g (((((ws.setCell ⟨T,0,none⟩ (.int .i64 p.step)).setCell ⟨T,1,none⟩ (.slice none 0 0)).setCell ⟨T,2,none⟩ (.slice none 0 0)).setCell ⟨T,3,none⟩ (.slice none 0 0)).setCell ⟨T,4,none⟩ (.slice none 0 0))):=hide (⟨#[.int .i64 p.step,.slice none 0 0,.slice none 0 0,.slice none 0 0,.slice none 0 0],⟨p.step,[],[],[],[]⟩,rfl,(heap_setCell_same _ T 4 _ _ (.slice none 0 0) (heap_setCell_same _ T 3 _ _ (.slice none 0 0) (heap_setCell_same _ T 2 _ _ (.slice none 0 0) (heap_setCell_same _ T 1 _ _ (.slice none 0 0) (heap_setCell_same _ T 0 _ _ (.int .i64 p.step) HT.out))))),fun w' hs=>⟨_,_,_,_,_,_,_,_,_,_,_,_,rfl,⟨rfl,rfl,rfl,rfl⟩,⟨Rd.nil_,Rd.nil_,Rd.nil_,Rd.nil_⟩,⟨by omega,by omega,by omega,by omega⟩⟩,(((((HYs.out.setCell (p:=⟨T,0,none⟩) hyT (.int .i64 p.step)).setCell (p:=⟨T,1,none⟩) hyT (.slice none 0 0)).setCell (p:=⟨T,2,none⟩) hyT (.slice none 0 0)).setCell (p:=⟨T,3,none⟩) hyT (.slice none 0 0)).setCell (p:=⟨T,4,none⟩) hyT (.slice none 0 0))⟩)
        go_wp2
        go_meet
        case rel=>exact HFin
       have HFin:Hid (KtMid y T g ws):=hide (⟨#[.int .i64 p.step,.slice Ao no co,.slice Av nv cv,.slice Ac nc cc,.slice Ai ni ci],p,rfl,HT.out,fun w' hs=>⟨_,_,_,_,_,_,_,_,_,_,_,_,rfl,HLen.out,(HPIN.out.kept (Same1.kept hs HBs.out hvg) (Nat.le_trans (HBs.out).size hs.1)),HBd.out⟩,HYs.out⟩)
       go_wp2
       go_meet
       case rel=>exact HFin
      case rest=>
       obtain⟨C,p2,-,hTC,hval,hbyc⟩:=hcut.out
       clear hcut c0 f0 c1 f1 c2 f2 c3 f3 c4 f4
       obtain⟨Ao2,Av2,Ac2,Ai2,no2,nv2,nc2,ni2,co2,cv2,cc2,ci2,hcs,hlen2,hin2,hbd2⟩:=hval wc (Same1.refl g wc)
       obtain rfl:C=#[.int .i64 p2.step,.slice Ao2 no2 co2,.slice Av2 nv2 cv2,.slice Ac2 nc2 cc2,.slice Ai2 ni2 ci2]:=by rw[←Array.toArray_toList (xs:=C),hcs]
       have HTC:=hide hTC
       have HVal:=hide hval
       have HBc:=hide hbyc
       have HBcv:=hide (HBy.out.trans (hbyc.mono syv))
       have hTc:T<wc.heap.size:=(Array.getElem?_eq_some_iff.1 hTC).1
       have hgc:g<wc.heap.size:=by omega
       have HOc:=hide (own_below HOm.out hbyc (fun q hq=>(HOm.out.lt q hq).2))
       clear hTC hval hbyc hcs hlen2 hin2 hbd2
       obtain⟨c0,c1,c2,c3,c4⟩:=zr5 HTC.out
       have hcl:∀j,j<5→∃v,wc.cell? ⟨g,a*5+j,none⟩=some v:=fun j hj=>by
         rw[HOc.out.cellAt (a*5+j) (by omega)];exact⟨_,List.getElem?_eq_getElem (by have:=HXl.out;omega)⟩
       obtain⟨o0,d0⟩:=hcl 0 (by omega)
       have df0:wc.frozen? ⟨g,a*5,none⟩=false:=HOc.out.frozenAt (a*5)
       obtain⟨o1,d1⟩:=hcl 1 (by omega)
       have df1:wc.frozen? ⟨g,a*5+1,none⟩=false:=HOc.out.frozenAt (a*5+1)
       obtain⟨o2,d2⟩:=hcl 2 (by omega)
       have df2:wc.frozen? ⟨g,a*5+2,none⟩=false:=HOc.out.frozenAt (a*5+2)
       obtain⟨o3,d3⟩:=hcl 3 (by omega)
       have df3:wc.frozen? ⟨g,a*5+3,none⟩=false:=HOc.out.frozenAt (a*5+3)
       obtain⟨o4,d4⟩:=hcl 4 (by omega)
       have df4:wc.frozen? ⟨g,a*5+4,none⟩=false:=HOc.out.frozenAt (a*5+4)
       rw[Nat.add_zero] at d0
       clear hcl
       obtain⟨w6,h6e,h6s,h6z,h6b,h6r⟩:=row_five HOc.out (.int .i64 p2.step) (.slice Ao2 no2 co2) (.slice Av2 nv2 cv2) (.slice Ac2 nc2 cc2) (.slice Ai2 ni2 ci2) hlta
       have HB6:=hide (h6b v2 v2.heap.size HBcv.out hvg)
       have HVal6:=hide (HVal.out w6 h6s)
       have HT6:Hid (w6.heap[T]?=some (.cells #[.int .i64 p2.step,.slice Ao2 no2 co2,.slice Av2 nv2 cv2,.slice Ac2 nc2 cc2,.slice Ai2 ni2 ci2] 42)):=hide (by rw[h6s.2 T (by omega) hTc];exact HTC.out)
       have HR6:Hid (PRow w6 (some ⟨g,0,none⟩) ((cutsP s k).set a p2)):=hide (h6r (cutsP s k) p2 (cutsP_len _ _) (fun q p hq hp=>by
         have hql:q<k:=by have:=(List.getElem?_eq_some_iff.1 hp).1;rw[cutsP_len] at this;exact this
         obtain⟨cs,e1,e2,e3⟩:=HMl.out q p hql hp
         exact⟨cs,e1,e2.val.kept (Same1.kept h6s HBcv.out hvg) HB6.out.size,e3⟩) HVal6.out)
       have hsl:((cutsP s k).set a p2).length=k:=by rw[List.length_set,cutsP_len]
       have HSl:=hide hsl
       have H6e:=hide h6e
       clear h6e h6s h6z h6b h6r hsl
       go_upto_region 27 with fail
       rw[H6e.out]
       clear H6e c0 d0 df0 c1 d1 df1 c2 d2 df2 c3 d3 df3 c4 d4 df4
       go_wp2_with fail
       refine (sjw_any w6 (some ⟨g,0,none⟩) _ k c' HSl.out HR6.out hkc2 hcm2).mono ?_
       rintro e z ⟨rfl,hz⟩
       have HBz:=hide (HB6.out.trans (hz.mono HB6.out.size))
       have hT6:T<w6.heap.size:=(Array.getElem?_eq_some_iff.1 HT6.out).1
       have HTz:=hide ((hz.block _ hT6).trans HT6.out)
       have HVz:=hide (HVal6.out.kept (Kept.of_below hz) hz.size)
       have hTz:T<z.heap.size:=by have:=hz.size;omega
       clear hz
       obtain⟨c0,c1,c2,c3,c4⟩:=zr5 HTz.out
       obtain⟨Ao3,Av3,Ac3,Ai3,no3,nv3,nc3,ni3,co3,cv3,cc3,ci3,hcs,hlen3,hin3,hbd3⟩:=HVz.out
       simp only[List.cons.injEq,Value.slice.injEq,true_and,and_true] at hcs
       obtain⟨⟨rfl,rfl,rfl⟩,⟨rfl,rfl,rfl⟩,⟨rfl,rfl,rfl⟩,⟨rfl,rfl,rfl⟩⟩:=hcs
       have HIn3:=hide hin3
       have HLn3:=hide hlen3
       have HBd3:=hide hbd3
       clear hin3 hlen3 hbd3
       go_wp2_with fail
       refine (statesPut_walk z p2 Ao2 Av2 Ac2 Ai2 no2 nv2 nc2 ni2 co2 cv2 cc2 ci2 HLn3.out HIn3.out HBd3.out).mono ?_
       rintro e z2 ⟨rfl,hz⟩
       have HBz2:=hide (HBz.out.trans (hz.mono HBz.out.size))
       clear hz c0 c1 c2 c3 c4
       go_wp2
       go_roundw
       case rel=>exact⟨n+1,by omega,by go_num,HBz2⟩
       case measure=>simp[intOf];omega
     obtain rfl:n=6:=by omega
     go_wp2
     go_roundw
     case rel=>exact⟨a+1,by omega,by go_num,hbr⟩
     case measure=>simp[intOf];omega
   obtain rfl:k=a:=by omega
   have hAA:¬(k:Int)<(k:Int):=by omega
   have HRa:=hide (HRl.out.next hba.out)
   obtain⟨wa,rfl⟩:∃z:World,z=wr:=⟨_,rfl⟩
   have hk1I:(1:Int)≤(k:Int):=by omega
   have hkcI:(k:Int)≤(cm:Int):=by omega
   have hk1c:(1:Int)≤(cm:Int):=by omega
   have HK1:=hide hk1
   have HKC:=hide hkc
   have hdl:((cutsP s k).drop 1).length=k-1:=by rw[List.length_drop,cutsP_len]
   have HDl:=hide hdl
   clear hdl
   go_wp2_with fail
   ·have hkz:k-1=0:=by have h1:=HK1.out;have h2:=HKC.out;omega
    refine (sjw_any wa (some ⟨gl,0,none⟩) [] (k-1) 0 (by rw[hkz];rfl) (PRow.nil _ _) (by omega) (by omega)).mono ?_
    rintro e z2 ⟨rfl,hz⟩
    have HF:=hide (HB.out.trans ((HUb.out.trans ((hba.out.trans (hz.mono sva)).mono (by omega))).mono (by omega)))
    clear hz
    go_wp2
    go_ret
    exact⟨rfl,HF.out⟩
   refine (sjw_any wa (some ⟨gl,5,none⟩) _ (k-1) (cm-1) HDl.out (by have:=HRa.out.tail;rw[Nat.zero_add] at this;exact this) (by have h2:=HKC.out;omega) (by omega)).mono ?_
   rintro e z2 ⟨rfl,hz⟩
   have HF:=hide (HB.out.trans ((HUb.out.trans ((hba.out.trans (hz.mono sva)).mono (by omega))).mono (by omega)))
   clear hz
   go_wp2
   go_ret
   exact⟨rfl,HF.out⟩
end Go.Proofs.YtpojjmbalgmcoaaGreat

/- Lemmas: Rtk, Spt, Rrd. -/
import Derived.Test.YtpojjmbalgmcoaaGreatProg
import Derived.Deep.DeepCutAuto
import Derived.Deep.CutBlock
import Derived.Lib.Hide
import Derived.WalkSpells
import Derived.WalkMore
import Derived.IntWalk
import Derived.WalkLawsBesides
import Derived.Test.YtpojjmbalgmcoaaGreatStWw17
set_option linter.unusedVariables false
set_option linter.unusedSimpArgs false
set_option maxRecDepth 100000
set_option maxHeartbeats 16000000
namespace Go.Proofs.YtpojjmbalgmcoaaGreat
open Go.RowKit
theorem rtake14_any (w:World) (st sm mo:Int) (A1 A2 A3:Option Addr) (V n2 n3 c1 c2 c3:Nat) (vals:List Int) (chg:List Bool) (inb:List Ml) (n k:Int) (hV:V≤512) (hv:vals.length=V) (hc:chg.length=n2) (hi:inb.length=n3)
  (r1:Rd w w.heap.size A1 (i64s vals)) (r2:Rd w w.heap.size A2 (bools chg)) (r3:Rd w w.heap.size A3 (mlFlat inb)) :
  Calls Tryz.prog 22 #[.agg #[.int .i64 st,.slice A1 V c1,.slice A2 n2 c2,.slice A3 n3 c3,.int .i64 sm,.int .i64 mo],.int .i64 n,.int .i64 k] w (GetPost w (takeP st vals chg inb n k) (takeE st vals chg inb n k)):=by
 obtain⟨a0,a0i,a0z,a0s,a0b⟩:=info_parts (show (Tryz.prog.info? 3).map (fun i=>(i.zero,i.size,i.bytes))=some (some (.int .i64 0),1,8) by kernel_rfl)
 obtain⟨a1,a1i,a1z,a1s,a1b⟩:=info_parts (show (Tryz.prog.info? 2).map (fun i=>(i.zero,i.size,i.bytes))=some (some (.int .i64 0),1,8) by kernel_rfl)
 obtain⟨a2,a2i,a2z,a2s,a2b⟩:=info_parts (show (Tryz.prog.info? 4).map (fun i=>(i.zero,i.size,i.bytes))=some (some (.bool false),1,1) by kernel_rfl)
 obtain⟨a3,a3i,a3z,a3s,a3b⟩:=info_parts (show (Tryz.prog.info? 51).map (fun i=>(i.zero,i.size,i.bytes))=some (some (.agg #[.bool false,.int .i64 0]),2,16) by kernel_rfl)
 obtain⟨u,hu⟩:∃u,(w.alloc (.cells #[.int .i64 st,.slice A1 V c1,.slice A2 n2 c2,.slice A3 n3 c3,.int .i64 sm,.int .i64 mo] 33)).alloc (.cells #[.int .i64 0,.slice none 0 0,.slice none 0 0,.slice none 0 0,.slice none 0 0] 64)=u:=⟨_,rfl⟩
 have hzu:w.heap.size+1<u.heap.size:=by rw[←hu];simp
 have HBU:=hide (show Below w.heap.size w u by rw[←hu];exact ((Below.refl _ _).alloc (Nat.le_refl _) _).alloc (by simp) _)
 have M1:=hide (show u.heap[w.heap.size+1]?=some (.cells #[.int .i64 0,.slice none 0 0,.slice none 0 0,.slice none 0 0,.slice none 0 0] 64) by rw[←hu];have h:=heap_alloc_last (w.alloc (.cells #[.int .i64 st,.slice A1 V c1,.slice A2 n2 c2,.slice A3 n3 c3,.int .i64 sm,.int .i64 mo] 33)) (.cells #[.int .i64 0,.slice none 0 0,.slice none 0 0,.slice none 0 0,.slice none 0 0] 64);simpa using h)
 have M0:=hide (show u.heap[w.heap.size]?=some (.cells #[.int .i64 st,.slice A1 V c1,.slice A2 n2 c2,.slice A3 n3 c3,.int .i64 sm,.int .i64 mo] 33) by rw[←hu];exact heap_alloc_keepA (heap_alloc_last _ _))
 have HU:=hide hu
 have HV:=hide hv
 have HC:=hide hc
 have HI:=hide hi
 have R1:=hide r1
 have R2:=hide r2
 have R3:=hide r3
 clear hu hv hc hi r1 r2 r3
 by_cases b1:n<1
 ·have HN:Hid (takeE st vals chg inb n k=2):=hide (by unfold takeE;rw[if_pos (by omega)])
  have ZW:=M1
  have HBf:=HBU
  go_enter Tryz.func22,Tryz.ntmps22
  go_upto_region 1 with fail
  rw[HU.out]
  obtain⟨z0,z1,z2,z3,z4⟩:=zr5 ZW.out
  have zq:=zf ZW.out;have zf0:=zq 0;have zf1:=zq 1;have zf2:=zq 2;have zf3:=zq 3;have zf4:=zq 4;clear zq
  have HFin:=hide (five_fin (.int .i64 0) (.slice none 0 0) (.slice none 0 0) (.slice none 0 0) (.slice none 0 0) (show w.heap.size≤w.heap.size+1 by omega) ZW.out HBf.out)
  go_wp2
  obtain⟨f,hf,hfB,h6⟩:=HFin.out
  rw[hf]
  obtain⟨y0,y1,y2,y3,y4⟩:=zr5 h6
  exact bodyPost_ret (v:=.tuple #[.agg #[.int .i64 0,.slice none 0 0,.slice none 0 0,.slice none 0 0,.slice none 0 0],.int .i64 2]) (by simp[results,Tryz.results22,go_sem,y0,y1,y2,y3,y4]) rfl (take_bad HN.out (by decide) hfB)
 by_cases b2:64<n
 ·have HN:Hid (takeE st vals chg inb n k=2):=hide (by unfold takeE;rw[if_pos (by omega)])
  have ZW:=M1
  have HBf:=HBU
  go_enter Tryz.func22,Tryz.ntmps22
  go_upto_region 1 with fail
  rw[HU.out]
  obtain⟨z0,z1,z2,z3,z4⟩:=zr5 ZW.out
  have zq:=zf ZW.out;have zf0:=zq 0;have zf1:=zq 1;have zf2:=zq 2;have zf3:=zq 3;have zf4:=zq 4;clear zq
  have HFin:=hide (five_fin (.int .i64 0) (.slice none 0 0) (.slice none 0 0) (.slice none 0 0) (.slice none 0 0) (show w.heap.size≤w.heap.size+1 by omega) ZW.out HBf.out)
  go_wp2
  obtain⟨f,hf,hfB,h6⟩:=HFin.out
  rw[hf]
  obtain⟨y0,y1,y2,y3,y4⟩:=zr5 h6
  exact bodyPost_ret (v:=.tuple #[.agg #[.int .i64 0,.slice none 0 0,.slice none 0 0,.slice none 0 0,.slice none 0 0],.int .i64 2]) (by simp[results,Tryz.results22,go_sem,y0,y1,y2,y3,y4]) rfl (take_bad HN.out (by decide) hfB)
 by_cases b3:k<0
 ·have HN:Hid (takeE st vals chg inb n k=2):=hide (by unfold takeE;rw[if_pos (by omega)])
  have ZW:=M1
  have HBf:=HBU
  go_enter Tryz.func22,Tryz.ntmps22
  go_upto_region 1 with fail
  rw[HU.out]
  obtain⟨z0,z1,z2,z3,z4⟩:=zr5 ZW.out
  have zq:=zf ZW.out;have zf0:=zq 0;have zf1:=zq 1;have zf2:=zq 2;have zf3:=zq 3;have zf4:=zq 4;clear zq
  have HFin:=hide (five_fin (.int .i64 0) (.slice none 0 0) (.slice none 0 0) (.slice none 0 0) (.slice none 0 0) (show w.heap.size≤w.heap.size+1 by omega) ZW.out HBf.out)
  go_wp2
  obtain⟨f,hf,hfB,h6⟩:=HFin.out
  rw[hf]
  obtain⟨y0,y1,y2,y3,y4⟩:=zr5 h6
  exact bodyPost_ret (v:=.tuple #[.agg #[.int .i64 0,.slice none 0 0,.slice none 0 0,.slice none 0 0,.slice none 0 0],.int .i64 2]) (by simp[results,Tryz.results22,go_sem,y0,y1,y2,y3,y4]) rfl (take_bad HN.out (by decide) hfB)
 by_cases b4:n≤k
 ·have HN:Hid (takeE st vals chg inb n k=2):=hide (by unfold takeE;rw[if_pos (by omega)])
  have ZW:=M1
  have HBf:=HBU
  go_enter Tryz.func22,Tryz.ntmps22
  go_upto_region 1 with fail
  rw[HU.out]
  obtain⟨z0,z1,z2,z3,z4⟩:=zr5 ZW.out
  have zq:=zf ZW.out;have zf0:=zq 0;have zf1:=zq 1;have zf2:=zq 2;have zf3:=zq 3;have zf4:=zq 4;clear zq
  have HFin:=hide (five_fin (.int .i64 0) (.slice none 0 0) (.slice none 0 0) (.slice none 0 0) (.slice none 0 0) (show w.heap.size≤w.heap.size+1 by omega) ZW.out HBf.out)
  go_wp2
  obtain⟨f,hf,hfB,h6⟩:=HFin.out
  rw[hf]
  obtain⟨y0,y1,y2,y3,y4⟩:=zr5 h6
  exact bodyPost_ret (v:=.tuple #[.agg #[.int .i64 0,.slice none 0 0,.slice none 0 0,.slice none 0 0,.slice none 0 0],.int .i64 2]) (by simp[results,Tryz.results22,go_sem,y0,y1,y2,y3,y4]) rfl (take_bad HN.out (by decide) hfB)
 by_cases hV0:V=0
 ·subst hV0
  have HN:Hid (takeE st vals chg inb n k=4):=hide (by unfold takeE;rw[if_neg (by omega),if_pos (.inl HV.out)])
  have ZW:=M1
  have HBf:=HBU
  have N0:=M0.out
  obtain⟨x0,x1,x2,x3,x4,x5⟩:=zr6 N0
  clear N0
  go_enter Tryz.func22,Tryz.ntmps22
  go_upto_region 1 with fail
  rw[HU.out]
  obtain⟨z0,z1,z2,z3,z4⟩:=zr5 ZW.out
  have zq:=zf ZW.out;have zf0:=zq 0;have zf1:=zq 1;have zf2:=zq 2;have zf3:=zq 3;have zf4:=zq 4;clear zq
  have HFin:=hide (five_fin (.int .i64 0) (.slice none 0 0) (.slice none 0 0) (.slice none 0 0) (.slice none 0 0) (show w.heap.size≤w.heap.size+1 by omega) ZW.out HBf.out)
  go_wp2
  obtain⟨f,hf,hfB,h6⟩:=HFin.out
  rw[hf]
  obtain⟨y0,y1,y2,y3,y4⟩:=zr5 h6
  exact bodyPost_ret (v:=.tuple #[.agg #[.int .i64 0,.slice none 0 0,.slice none 0 0,.slice none 0 0,.slice none 0 0],.int .i64 4]) (by simp[results,Tryz.results22,go_sem,y0,y1,y2,y3,y4]) rfl (take_bad HN.out (by decide) hfB)
 have hV1:¬V=0:=hV0
 have hV3:((V:Int) == 0)=false:=by simp;omega
 have N0:=M0.out
 obtain⟨x0,x1,x2,x3,x4,x5⟩:=zr6 N0
 clear N0
 go_enter Tryz.func22,Tryz.ntmps22
 go_upto_region 1 with fail
 rw[HU.out]
 go_wp2_with fail
 refine (rwhole_any u st sm mo A1 A2 A3 V n2 n3 c1 c2 c3 hV).mono ?_
 rintro e w1 ⟨A,c,rfl,hr,hb⟩
 have B1:=hide hb
 have s1:u.heap.size≤w1.heap.size:=hb.size
 have HSL:Hid (SLen (wholeP st vals chg inb) V V n2 n3):=hide ⟨by unfold wholeP;rw[upto_len];exact HV.out,HV.out,HC.out,HI.out⟩
 have HSI:Hid (SIn w1 (wholeP st vals chg inb) A A1 A2 A3):=hide ⟨by unfold wholeP;rw[HV.out];exact hr,(R1.out.next HBU.out).next hb,(R2.out.next HBU.out).next hb,(R3.out.next HBU.out).next hb⟩
 clear hr hb x0 x1 x2 x3 x4 x5
 have hcl:=rright_any w1 (wholeP st vals chg inb) A A1 A2 A3 V V n2 n3 c c1 c2 c3 HSL.out (by omega) HSI.out
 rcases hrb:rightB (wholeP st vals chg inb) with _ | _
 ·rw[hrb,show (wholeP st vals chg inb).step=st from rfl] at hcl
  have HRB:=hide hrb
  have HCL:=hide hcl
  clear hrb hcl
  go_wp2_with fail
  refine HCL.out.mono ?_
  rintro e w2 ⟨rfl,hb⟩
  have B2:=hide (B1.out.trans (hb.mono s1))
  have s2:u.heap.size≤w2.heap.size:=Nat.le_trans s1 hb.size
  clear hb HCL
  have HN:Hid (takeE st vals chg inb n k=4):=hide (by unfold takeE;rw[if_neg (by omega),if_pos (.inr HRB.out)])
  have ZW:=hide ((B2.out.block _ (by omega)).trans M1.out)
  have HBf:=hide (HBU.out.trans (B2.out.mono (by omega)))
  obtain⟨z0,z1,z2,z3,z4⟩:=zr5 ZW.out
  have zq:=zf ZW.out;have zf0:=zq 0;have zf1:=zq 1;have zf2:=zq 2;have zf3:=zq 3;have zf4:=zq 4;clear zq
  have HFin:=hide (five_fin (.int .i64 0) (.slice none 0 0) (.slice none 0 0) (.slice none 0 0) (.slice none 0 0) (show w.heap.size≤w.heap.size+1 by omega) ZW.out HBf.out)
  go_wp2
  obtain⟨f,hf,hfB,h6⟩:=HFin.out
  rw[hf]
  obtain⟨y0,y1,y2,y3,y4⟩:=zr5 h6
  exact bodyPost_ret (v:=.tuple #[.agg #[.int .i64 0,.slice none 0 0,.slice none 0 0,.slice none 0 0,.slice none 0 0],.int .i64 4]) (by simp[results,Tryz.results22,go_sem,y0,y1,y2,y3,y4]) rfl (take_bad HN.out (by decide) hfB)
 rw[hrb,show (wholeP st vals chg inb).step=st from rfl] at hcl
 have HRB:=hide hrb
 have HCL:=hide hcl
 clear hrb hcl
 go_wp2_with fail
 refine HCL.out.mono ?_
 rintro e w2 ⟨rfl,hb⟩
 have B2:=hide (B1.out.trans (hb.mono s1))
 have s2:u.heap.size≤w2.heap.size:=Nat.le_trans s1 hb.size
 clear hb HCL
 have HN:Hid (takeE st vals chg inb n k=0):=hide (by unfold takeE;rw[if_neg (by omega),if_neg (by rw[HRB.out,HV.out];simp;omega)])
 have hlens:=right_whole_lens HRB.out
 obtain rfl:n2=V:=by have:=HC.out;have:=HV.out;omega
 obtain rfl:n3=n2:=by have:=HI.out;have:=HV.out;omega
 clear hlens
 obtain⟨V,rfl⟩:∃V,V=n3:=⟨_,rfl⟩
 have N0w:=hide ((B2.out.block _ (by omega)).trans M0.out)
 have N0:=N0w.out
 obtain⟨x0,x1,x2,x3,x4,x5⟩:=zr6 N0
 clear N0
 go_upto_region 6 with fail
 obtain⟨v0,hv0⟩:∃z,w2.alloc (.cells #[.int .i64 st,.slice none 0 0,.slice none 0 0,.slice none 0 0,.slice none 0 0] 64)=z:=⟨_,rfl⟩
 rw[hv0]
 obtain⟨bp,hbp⟩:∃z,w2.heap.size=z:=⟨_,rfl⟩
 have hbv:bp<v0.heap.size:=by rw[←hv0,←hbp];simp
 have HPv:Hid (v0.heap[bp]?=some (.cells #[.int .i64 st,.slice none 0 0,.slice none 0 0,.slice none 0 0,.slice none 0 0] 64)):=hide (by rw[←hv0,←hbp];exact heap_alloc_last _ _)
 have HBf2:Below w.heap.size w w2:=HBU.out.trans (B2.out.mono (by omega))
 have HBv:Hid (Below w.heap.size w v0):=hide (by rw[←hv0];exact HBf2.alloc HBf2.size _)
 have hk9:∀b,b<w2.heap.size→v0.heap[b]?=w2.heap[b]?:=fun b hb=>by rw[←hv0];exact Below.heap_alloc _ _ _ hb
 have HZ0:=hide ((hk9 _ (by omega)).trans ((B2.out.block _ (by omega)).trans M1.out))
 have HS0:=hide ((hk9 _ (by omega)).trans N0w.out)
 rw[hbp]
 have hub:u.heap.size≤bp:=by omega
 clear hv0 hbp hk9 HBf2 x0 x1 x2 x3 x4 x5
 have G0:Hid (GetSt [bp] v0 w bp 64 st [] [] [] [] none 0 none 0 none 0 none 0 0 0 0 0 v0):=hide ⟨HPv.out,World.ownsRow_nil _ _ _ _,World.ownsRow_nil _ _ _ _,World.ownsRow_nil _ _ _ _,World.ownsRow_nil _ _ _ _,KB.refl _ _,HBv.out⟩
 have hHv:w.heap.size+1<v0.heap.size:=by omega
 have HHX:Hid (w.heap.size+1∉[bp]):=hide (by simp;omega)
 have HHY:Hid (w.heap.size∉[bp]):=hide (by simp;omega)
 have hwbp:w.heap.size≤bp:=by omega
 have hwv:w.heap.size≤v0.heap.size:=by omega
 clear HPv HBv s1 s2
 have HK0:=hide (show 0≤k by omega)
 have hV60:=hV
 go_wp2
 go_loopw [9] (fun v9 wr=>∃(i q:Nat) (Ao:Option Addr) (co:Nat) (Av:Option Addr) (cv:Nat) (Ac:Option Addr) (cc:Nat) (Ai:Option Addr) (ci:Nat),i≤V∧v9 = .int .i64 (i:Int)∧Hid ((ownUpto n k i).length=q)∧Hid (GetSt [bp] v0 w bp 64 st (ownUpto n k i) (pv vals (ownUpto n k i)) (pc chg (ownUpto n k i)) (pm inb (ownUpto n k i)) Ao co Av cv Ac cc Ai ci q q q q wr)) (fun v9 _=>V-(intOf v9).toNat)
 case atStart=>exact⟨0,0,none,0,none,0,none,0,none,0,by omega,rfl,hide rfl,G0⟩
 case round=>
  clear G0
  obtain⟨i,q,Ao,co,Av,cv,Ac,cc,Ai,ci,hi,rfl,HQ,GR⟩:=hrel
  have srw:v0.heap.size≤wr.heap.size:=GR.out.kb.1
  have hqi:q≤i:=by rw[←HQ.out];exact own_len n k i
  by_cases hlt:i<V
  ·have hI:(i:Int)<(V:Int):=by omega
   have x1:wr.cell? ⟨w.heap.size,1,none⟩=some (.slice A1 V c1):=(GR.out.kb.cell (p:=⟨w.heap.size,1,none⟩) (by show w.heap.size<_;omega) HHY.out).trans (cell_of_row _ _ 1 _ _ _ HS0.out)
   have lw:w.heap.size<wr.heap.size:=by omega
   by_cases hsel:ofF (i:Int) n=k
   ·have hsel':¬¬(ofF (i:Int) n=k):=fun h=>h hsel
    have HSN:=hide (own_snoc_in HK0.out hsel)
    have HSel:=hide hsel
    have HOF:=hide (show ofF (i:Int) n=k from hsel)
    clear hsel hsel'
    obtain⟨a,ha⟩:∃a,vals[i]?=some a:=⟨_,List.getElem?_eq_getElem (by rw[HV.out];exact hlt)⟩
    obtain⟨b,hb⟩:∃a,chg[i]?=some a:=⟨_,List.getElem?_eq_getElem (by rw[HC.out];exact hlt)⟩
    obtain⟨m,hm⟩:∃a,inb[i]?=some a:=⟨_,List.getElem?_eq_getElem (by rw[HI.out];exact hlt)⟩
    obtain⟨e1,o1,rfl,l1,d1⟩:=R1.out.at1 (i64s_get ha)
    obtain⟨e2,o2,rfl,l2,d2⟩:=R2.out.at1 (show (bools chg)[i]?=some (.bool b) by simp[bools,hb])
    obtain⟨e3,o3,rfl,l3,d3,d4⟩:=R3.out.ml hm
    have HA:=hide ha
    have HBb:=hide hb
    have HMm:=hide hm
    have D1:=hide d1
    have D2:=hide d2
    have D3:=hide d3
    have D4:=hide d4
    clear ha hb hm d1 d2 d3 d4
    go_wp2_with fail
    refine (rof_any _ i n).mono ?_
    rintro e w9 ⟨rfl,rfl⟩
    rw[HOF.out]
    have G0:=GR
    have p1:w9.cell? ⟨bp,1,none⟩=some (.slice Ao q co):=cell_of_row _ _ 1 _ _ _ G0.out.hp
    have lbp:=lt_of_block G0.out.hp
    have sz0:v0.heap.size≤w9.heap.size:=G0.out.kb.1
    have hcp0:=own_cap G0.out.ho
    go_wp2_with (at_builtin;refine wpList_app rfl (.tmp 53) (.tmp 55) 40 rfl v0.heap.size 3 a0 (.int .i64 0) 1 8 Tryz.underlying40 a0i a0z a0s a0b rfl (by decide) (.slice Ao q co) q _ rfl (G0.out.ho.alloc _) (w9.heap.size+1) (some ⟨w9.heap.size,0,none⟩) 1 1 [.int .i64 (i:Int)] rfl rfl (Rd.new _ _ _ _) (by simp[Value.oneCell']) (by unfold maxLen;omega) (by omega) (by simp;omega) ?_)
    intro A0' c0' y0 own0 hg0 hat0
    have AP:=G0.out.appOwn (x:=(i:Int)) hbv (by simp) hwbp hwv own0 hg0
    have q1:y0.cell? ⟨bp,1,none⟩=some (.slice Ao q co):=cell_of_row _ _ 1 _ _ _ AP.1
    have qf1:=zf AP.1 1
    obtain⟨wa1,hwa1⟩:∃z,y0.setCell ⟨bp,1,none⟩ (.slice A0' (q+1) c0')=z:=⟨_,rfl⟩
    have G1:=hide AP.2
    rw[hwa1] at G1
    have HE0:=hide hwa1
    clear AP own0 hg0 hat0 hwa1 p1 lbp G0 hcp0
    go_upto_region 11 with fail
    rw[HE0.out]
    clear HE0 q1 qf1
    have p2:wa1.cell? ⟨bp,2,none⟩=some (.slice Av q cv):=cell_of_row _ _ 2 _ _ _ G1.out.hp
    have lbp:=lt_of_block G1.out.hp
    have sz1:v0.heap.size≤wa1.heap.size:=G1.out.kb.1
    have hcp1:=own_cap G1.out.hv
    have x1:wa1.cell? ⟨w.heap.size,1,none⟩=some (.slice (some ⟨e1,o1,none⟩) V c1):=(G1.out.kb.cell (p:=⟨w.heap.size,1,none⟩) (by show w.heap.size<_;omega) HHY.out).trans (cell_of_row _ _ 1 _ _ _ HS0.out)
    have d1:wa1.cell? ⟨e1,o1+i,none⟩=some (.int .i64 a):=(G1.out.bl.cell (p:=⟨e1,o1+i,none⟩) l1).trans D1.out
    have lw1:w.heap.size<wa1.heap.size:=by omega
    have le1:e1<wa1.heap.size:=by omega
    refine wpL_region (S:=Kept wa1) [8,10] (by kernel_rfl) (Kept.drew wa1) (fun hS0=>?_)
    refine twa 0 58 ?_
    refine tla 1 59 ?_
    refine twa 2 60 ?_
    refine tua [3,5,6,7,8,9,10] 3 61 ?_
    refine twa 4 62 ?_
    refine twa 5 63 ?_
    refine tua [6,7,8,9,10] 6 64 ?_
    refine cl 7 65 fun K hK=>?_
    go_simp
    have hS1:Kept wa1 (wa1.drew.alloc (.cells #[.int .i64 a] 2)):=fun p hp=>World.cell?_alloc_lt _ _ _ hp
    refine hK.out _ _ hS1 (fun hSn=>?_)
    clear hK K
    try simp only[zqd,zqe,zqf]
    refine xl 8 fun K hK=>?_
    refine op_app (.tmp 59) (.tmp 65) 29 rfl v0.heap.size 2 a1 (.int .i64 0) 1 8 Tryz.underlying29 a1i a1z a1s a1b rfl (by decide) (.slice Av q cv) q _ rfl (G1.out.hv.drew.alloc _) (wa1.heap.size+1) (some ⟨wa1.heap.size,0,none⟩) 1 1 [.int .i64 a] rfl rfl (Rd.new _ _ _ _) (by simp[Value.oneCell']) (by unfold maxLen;omega) (by omega) (by simp;omega) ?_
    intro A1' c1' y1 own1 hg1 hat1
    have AP:=G1.out.drew.appVals (x:=a) hbv (by simp) hwbp hwv own1 hg1
    have q2:y1.cell? ⟨bp,2,none⟩=some (.slice Av q cv):=cell_of_row _ _ 2 _ _ _ AP.1
    have qf2:=zf AP.1 2
    have AP2:=hide AP.2
    clear AP own1 hg1 hat1
    refine hK.out _ _ ?_
    clear hK K
    simp only[Act.put]
    try simp only[zqd,zqe,zqf]
    refine twa 9 67 ?_
    refine xl 10 fun K hK=>?_
    go_wp2_with fail
    refine hK.out _ _ ?_
    clear hK K
    try simp only[zqd,zqe,zqf]
    refine wpAnyL_done (by kernel_rfl) ?_ _
    clear hS0 hSn hS1
    obtain⟨wa2,hwa2⟩:∃z,y1.setCell ⟨bp,2,none⟩ (.slice A1' (q+1) c1')=z:=⟨_,rfl⟩
    have G2:=hide AP2.out
    rw[hwa2] at G2
    have HE1:=hide hwa2
    clear AP2 hwa2 p2 lbp G1 hcp1 x1 d1 lw1 le1
    go_upto_region 12 with fail
    rw[HE1.out]
    clear HE1 q2 qf2
    have p3:wa2.cell? ⟨bp,3,none⟩=some (.slice Ac q cc):=cell_of_row _ _ 3 _ _ _ G2.out.hp
    have lbp:=lt_of_block G2.out.hp
    have sz2:v0.heap.size≤wa2.heap.size:=G2.out.kb.1
    have hcp2:=own_cap G2.out.hc
    have x2:wa2.cell? ⟨w.heap.size,2,none⟩=some (.slice (some ⟨e2,o2,none⟩) V c2):=(G2.out.kb.cell (p:=⟨w.heap.size,2,none⟩) (by show w.heap.size<_;omega) HHY.out).trans (cell_of_row _ _ 2 _ _ _ HS0.out)
    have d2:wa2.cell? ⟨e2,o2+i,none⟩=some (.bool b):=(G2.out.bl.cell (p:=⟨e2,o2+i,none⟩) l2).trans D2.out
    have lw2:w.heap.size<wa2.heap.size:=by omega
    have le2:e2<wa2.heap.size:=by omega
    refine wpL_region (S:=Kept wa2) [8,10] (by kernel_rfl) (Kept.drew wa2) (fun hS0=>?_)
    refine twa 0 68 ?_
    refine tla 1 69 ?_
    refine twa 2 70 ?_
    refine tua [3,5,6,7,8,9,10] 3 71 ?_
    refine twa 4 72 ?_
    refine twa 5 73 ?_
    refine tua [6,7,8,9,10] 6 74 ?_
    refine cl 7 75 fun K hK=>?_
    go_simp
    have hS1:Kept wa2 (wa2.drew.alloc (.cells #[.bool b] 4)):=fun p hp=>World.cell?_alloc_lt _ _ _ hp
    refine hK.out _ _ hS1 (fun hSn=>?_)
    clear hK K
    try simp only[zqd,zqe,zqf]
    refine xl 8 fun K hK=>?_
    refine op_app (.tmp 69) (.tmp 75) 30 rfl v0.heap.size 4 a2 (.bool false) 1 1 Tryz.underlying30 a2i a2z a2s a2b rfl (by decide) (.slice Ac q cc) q _ rfl (G2.out.hc.drew.alloc _) (wa2.heap.size+1) (some ⟨wa2.heap.size,0,none⟩) 1 1 [.bool b] rfl rfl (Rd.new _ _ _ _) (by simp[Value.oneCell']) (by unfold maxLen;omega) (by omega) (by simp;omega) ?_
    intro A2' c2' y2 own2 hg2 hat2
    have AP:=G2.out.drew.appChg (x:=b) hbv (by simp) hwbp hwv own2 hg2
    have q3:y2.cell? ⟨bp,3,none⟩=some (.slice Ac q cc):=cell_of_row _ _ 3 _ _ _ AP.1
    have qf3:=zf AP.1 3
    have AP2:=hide AP.2
    clear AP own2 hg2 hat2
    refine hK.out _ _ ?_
    clear hK K
    simp only[Act.put]
    try simp only[zqd,zqe,zqf]
    refine twa 9 77 ?_
    refine xl 10 fun K hK=>?_
    go_wp2_with fail
    refine hK.out _ _ ?_
    clear hK K
    try simp only[zqd,zqe,zqf]
    refine wpAnyL_done (by kernel_rfl) ?_ _
    clear hS0 hSn hS1
    obtain⟨wa3,hwa3⟩:∃z,y2.setCell ⟨bp,3,none⟩ (.slice A2' (q+1) c2')=z:=⟨_,rfl⟩
    have G3:=hide AP2.out
    rw[hwa3] at G3
    have HE2:=hide hwa3
    clear AP2 hwa3 p3 lbp G2 hcp2 x2 d2 lw2 le2
    go_upto_region 13 with fail
    rw[HE2.out]
    clear HE2 q3 qf3
    have p4:wa3.cell? ⟨bp,4,none⟩=some (.slice Ai q ci):=cell_of_row _ _ 4 _ _ _ G3.out.hp
    have lbp:=lt_of_block G3.out.hp
    have sz3:v0.heap.size≤wa3.heap.size:=G3.out.kb.1
    have hcp3:=own_cap G3.out.hi
    have x3:wa3.cell? ⟨w.heap.size,3,none⟩=some (.slice (some ⟨e3,o3,none⟩) V c3):=(G3.out.kb.cell (p:=⟨w.heap.size,3,none⟩) (by show w.heap.size<_;omega) HHY.out).trans (cell_of_row _ _ 3 _ _ _ HS0.out)
    have d3:wa3.cell? ⟨e3,o3+i*2,none⟩=some (.bool m.1):=(G3.out.bl.cell (p:=⟨e3,o3+i*2,none⟩) l3).trans D3.out
    have d4:wa3.cell? ⟨e3,o3+i*2+1,none⟩=some (.int .i64 m.2):=(G3.out.bl.cell (p:=⟨e3,o3+i*2+1,none⟩) l3).trans D4.out
    have lw3:w.heap.size<wa3.heap.size:=by omega
    have le3:e3<wa3.heap.size:=by omega
    refine wpL_region (S:=Kept wa3) [8,10] (by kernel_rfl) (Kept.drew wa3) (fun hS0=>?_)
    refine twa 0 78 ?_
    refine tla 1 79 ?_
    refine twa 2 80 ?_
    refine tua [3,5,6,7,8,9,10] 3 81 ?_
    refine twa 4 82 ?_
    refine twa 5 83 ?_
    refine tua [6,7,8,9,10] 6 84 ?_
    refine cl 7 85 fun K hK=>?_
    go_simp
    have hS1:Kept wa3 (wa3.drew.alloc (.cells #[.bool m.1,.int .i64 m.2] 51)):=fun p hp=>World.cell?_alloc_lt _ _ _ hp
    refine hK.out _ _ hS1 (fun hSn=>?_)
    clear hK K
    try simp only[zqd,zqe,zqf]
    refine xl 8 fun K hK=>?_
    refine op_app (.tmp 79) (.tmp 85) 31 rfl v0.heap.size 51 a3 (.agg #[.bool false,.int .i64 0]) 2 16 Tryz.underlying31 a3i a3z a3s a3b rfl (by decide) (.slice Ai q ci) q _ rfl (G3.out.hi.drew.alloc _) (wa3.heap.size+1) (some ⟨wa3.heap.size,0,none⟩) 1 1 [.bool m.1,.int .i64 m.2] rfl rfl (Rd.new _ _ _ _) (by simp[Value.oneCell']) (by unfold maxLen;omega) (by omega) (by simp;omega) ?_
    intro A3' c3' y3 own3 hg3 hat3
    have AP:=G3.out.drew.appInb (x:=m) hbv (by simp) hwbp hwv own3 hg3
    have q4:y3.cell? ⟨bp,4,none⟩=some (.slice Ai q ci):=cell_of_row _ _ 4 _ _ _ AP.1
    have qf4:=zf AP.1 4
    have AP2:=hide AP.2
    clear AP own3 hg3 hat3
    refine hK.out _ _ ?_
    clear hK K
    simp only[Act.put]
    try simp only[zqd,zqe,zqf]
    refine twa 9 87 ?_
    refine xl 10 fun K hK=>?_
    go_wp2_with fail
    refine hK.out _ _ ?_
    clear hK K
    try simp only[zqd,zqe,zqf]
    refine wpAnyL_done (by kernel_rfl) ?_ _
    clear hS0 hSn hS1
    obtain⟨wa4,hwa4⟩:∃z,y3.setCell ⟨bp,4,none⟩ (.slice A3' (q+1) c3')=z:=⟨_,rfl⟩
    have G4:=hide AP2.out
    rw[hwa4] at G4
    have HE3:=hide hwa4
    clear AP2 hwa4 p4 lbp G3 hcp3 x3 d3 lw3 le3 d4
    have HQ2:Hid ((ownUpto n k (i+1)).length=q+1):=hide (by rw[HSN.out,List.length_append,HQ.out];rfl)
    have GN:Hid (GetSt [bp] v0 w bp 64 st (ownUpto n k (i+1)) (pv vals (ownUpto n k (i+1))) (pc chg (ownUpto n k (i+1))) (pm inb (ownUpto n k (i+1))) A0' c0' A1' c1' A2' c2' A3' c3' (q+1) (q+1) (q+1) (q+1) wa4):=hide (by rw[HSN.out,pv_snoc HA.out,pc_snoc HBb.out,pm_snoc HMm.out];exact G4.out)
    clear G4
    go_wp2
    rw[HE3.out]
    go_roundw
    case rel=>first | exact⟨i+1,q+1,A0',c0',A1',c1',A2',c2',A3',c3',by omega,by go_num,HQ2,GN⟩ | ((repeat apply Exists.intro);exact⟨⟨i+1,q+1,A0',c0',A1',c1',A2',c2',A3',c3',by omega,by go_num,HQ2,GN⟩,rfl⟩)
    case measure=>simp[intOf];omega
   obtain⟨z,hz⟩:∃z,ofF (i:Int) n=z:=⟨_,rfl⟩
   have hzk:¬z=k:=by rw[←hz];exact hsel
   have HSN:=hide (own_snoc_out hsel)
   have HZ:=hide hz
   clear hz hsel
   go_wp2_with fail
   refine (rof_any _ i n).mono ?_
   rintro e w9 ⟨rfl,rfl⟩
   rw[HZ.out]
   have HQn:Hid ((ownUpto n k (i+1)).length=q):=hide (by rw[HSN.out];exact HQ.out)
   have GRn:Hid (GetSt [bp] v0 w bp 64 st (ownUpto n k (i+1)) (pv vals (ownUpto n k (i+1))) (pc chg (ownUpto n k (i+1))) (pm inb (ownUpto n k (i+1))) Ao co Av cv Ac cc Ai ci q q q q w9):=hide (by rw[HSN.out];exact GR.out)
   clear HQ GR
   go_wp2
   go_roundw
   case rel=>first | exact⟨i+1,q,Ao,co,Av,cv,Ac,cc,Ai,ci,by omega,by go_num,HQn,GRn⟩ | ((repeat apply Exists.intro);exact⟨⟨i+1,q,Ao,co,Av,cv,Ac,cc,Ai,ci,by omega,by go_num,HQn,GRn⟩,rfl⟩)
   case measure=>simp[intOf];omega
  obtain rfl:i=V:=by omega
  have x1:wr.cell? ⟨w.heap.size,1,none⟩=some (.slice A1 i c1):=(GR.out.kb.cell (p:=⟨w.heap.size,1,none⟩) (by show w.heap.size<_;omega) HHY.out).trans (cell_of_row _ _ 1 _ _ _ HS0.out)
  have lw:w.heap.size<wr.heap.size:=by omega
  have ZW:=hide ((GR.out.kb.2 _ hHv HHX.out).trans HZ0.out)
  obtain⟨p0,p1,p2,p3,p4⟩:=zr5 GR.out.hp
  have lbp:=lt_of_block GR.out.hp
  obtain⟨z0,z1,z2,z3,z4⟩:=zr5 ZW.out
  have zq:=zf ZW.out;have zf0:=zq 0;have zf1:=zq 1;have zf2:=zq 2;have zf3:=zq 3;have zf4:=zq 4;clear zq
  have HFin:=hide (five_fin_rows (.int .i64 st) (.slice Ao q co) (.slice Av q cv) (.slice Ac q cc) (.slice Ai q ci) (show w.heap.size≤w.heap.size+1 by omega) ZW.out GR.out.bl hHv (rows_of GR.out))
  have HQ2:Hid ((ownUpto n k vals.length).length=q):=hide (by rw[HV.out];exact HQ.out)
  go_wp2
  obtain⟨f,hf,hfB,h6,hr⟩:=HFin.out
  rw[hf]
  obtain⟨y0,y1,y2,y3,y4⟩:=zr5 h6
  exact bodyPost_ret (v:=.tuple #[.agg #[.int .i64 st,.slice Ao q co,.slice Av q cv,.slice Ac q cc,.slice Ai q ci],.int .i64 0]) (by simp[results,Tryz.results22,go_sem,y0,y1,y2,y3,y4]) rfl (take_ok HN.out HQ2.out (by omega) (by rw[HV.out];exact hr.sin) hfB)
theorem Besides.kb {g:Nat} {v w w':World} (h:KB [g] v w) (hb:Besides g w w'):KB [g] v w':=
 ⟨Nat.le_trans h.1 hb.size,fun b hl hx=>(hb.block b (Nat.lt_of_lt_of_le hl h.1) (by simpa using hx)).trans (h.2 b hl hx)⟩
theorem sput_bad (w:World) (p:SPart) (Ao Av Ac Ai:Option Addr) (no nv nc ni co cv cc ci:Nat) (hlen:SLen p no nv nc ni) (bn:no≤9223372036854775807) (hin:SIn w p Ao Av Ac Ai) (hr:rightB p=false) :
  Calls Tryz.prog 10 #[.agg #[.int .i64 p.step,.slice Ao no co,.slice Av nv cv,.slice Ac nc cc,.slice Ai ni ci]] w (PutPost w [] 4):=by
 obtain⟨u,hu⟩:∃u,w.alloc (.cells #[.int .i64 p.step,.slice Ao no co,.slice Av nv cv,.slice Ac nc cc,.slice Ai ni ci] 42)=u:=⟨_,rfl⟩
 have hbu:Hid (Below w.heap.size w u):=hide (by rw[←hu];exact (Below.refl _ _).alloc (Nat.le_refl _) _)
 have HI:=hide (hin.next hbu.out)
 have HU:=hide hu
 have HR:=hide hr
 have HLen:=hide hlen
 clear hu hin hr hlen
 go_enter Tryz.func10,Tryz.ntmps10
 go_wp2_with fail
 rw[HU.out]
 refine (right_any u p Ao Av Ac Ai no nv nc ni co cv cc ci HLen.out bn HI.out).mono ?_
 rintro e y1 ⟨rfl,k1⟩
 rw[HR.out]
 have HB1:=hide (hbu.out.trans (k1.mono hbu.out.size))
 clear k1
 go_wp2
 go_ret2
 exact⟨none,0,0,rfl,rfl,Rd.nil_,by omega,by omega,HB1.out⟩
theorem sput_ok (w:World) (p:SPart) (Ao Av Ac Ai:Option Addr) (no nv nc ni co cv cc ci:Nat) (hlen:SLen p no nv nc ni) (bn:no≤2000) (hin:SIn w p Ao Av Ac Ai) (hr:rightB p=true) :
  Calls Tryz.prog 10 #[.agg #[.int .i64 p.step,.slice Ao no co,.slice Av nv cv,.slice Ac nc cc,.slice Ai ni ci]] w (PutPost w (putB p) 0):=by
 obtain⟨n,hn⟩:∃n,no=n:=⟨_,rfl⟩
 obtain⟨q1,q2,q3,q4,q5,hrl⟩:=right_parts hr
 obtain rfl:no=n:=hn
 obtain rfl:nv=no:=by have:=hlen.1;have:=hlen.2.1;omega
 obtain rfl:nc=nv:=by have:=hlen.1;have:=hlen.2.2.1;omega
 obtain rfl:ni=nc:=by have:=hlen.1;have:=hlen.2.2.2;omega
 obtain⟨s,hs⟩:=Int.eq_ofNat_of_zero_le q1
 obtain⟨n,rfl⟩:∃n,n=ni:=⟨_,rfl⟩
 rw[hs]
 obtain⟨u,hu⟩:∃u,w.alloc (.cells #[.int .i64 (s:Int),.slice Ao n co,.slice Av n cv,.slice Ac n cc,.slice Ai n ci] 42)=u:=⟨_,rfl⟩
 have hbu:Hid (Below w.heap.size w u):=hide (by rw[←hu];exact (Below.refl _ _).alloc (Nat.le_refl _) _)
 have hcu:Hid (u.heap[w.heap.size]?=some (.cells #[.int .i64 (s:Int),.slice Ao n co,.slice Av n cv,.slice Ac n cc,.slice Ai n ci] 42)):=hide (by rw[←hu];exact heap_alloc_last _ _)
 have hlu:w.heap.size<u.heap.size:=by rw[←hu];simp
 have HI:=hide hin
 have HI2:=hide (hin.next hbu.out)
 have HU:=hide hu
 have HR:=hide hr
 have HRt:=hide hrl
 have HLen:=hide hlen
 have HS:=hide hs
 have hs2:s≤2000:=by omega
 clear hu hin hr hlen hrl q1 q2 q3 q4 q5 hs
 go_enter Tryz.func10,Tryz.ntmps10
 go_wp2_with fail
 rw[HU.out]
 have hcall:=right_any u p Ao Av Ac Ai n n n n co cv cc ci HLen.out (by omega) HI2.out
 rw[HS.out] at hcall
 refine hcall.mono ?_
 clear hcall
 rintro e y1 ⟨rfl,k1⟩
 rw[HR.out]
 have HB1:=hide (hbu.out.trans (k1.mono hbu.out.size))
 have hly:u.heap.size≤y1.heap.size:=k1.size
 have hcy:=(k1.block w.heap.size hlu).trans hcu.out
 obtain⟨v0,hv0⟩:∃v0,y1.alloc (.cells #[.pointer none,.int .i64 0] 72)=v0:=⟨_,rfl⟩
 obtain⟨g,hg⟩:∃g,y1.heap.size=g:=⟨_,rfl⟩
 have hW0:Hid (Wo v0 g g []):=hide (by rw[←hv0,←hg];exact Wo.new y1)
 have hB0:Hid (Below w.heap.size w v0):=hide (by rw[←hv0];exact HB1.out.alloc HB1.out.size _)
 have hcv:=(show v0.heap[w.heap.size]?=y1.heap[w.heap.size]? by rw[←hv0];exact Below.heap_alloc _ _ _ (by omega)).trans hcy
 have hv0s:g<v0.heap.size:=by rw[←hv0,←hg];simp
 have e0:v0.cell? ⟨w.heap.size,0,none⟩=some (.int .i64 (s:Int)):=cell_of_row _ _ 0 _ _ _ hcv
 have E1:=hide (show v0.cell? ⟨w.heap.size,1,none⟩=some (.slice Ao n co) from cell_of_row _ _ 1 _ _ _ hcv)
 have E2:=hide (show v0.cell? ⟨w.heap.size,2,none⟩=some (.slice Av n cv) from cell_of_row _ _ 2 _ _ _ hcv)
 have E3:=hide (show v0.cell? ⟨w.heap.size,3,none⟩=some (.slice Ac n cc) from cell_of_row _ _ 3 _ _ _ hcv)
 have E4:=hide (show v0.cell? ⟨w.heap.size,4,none⟩=some (.slice Ai n ci) from cell_of_row _ _ 4 _ _ _ hcv)
 have KV:Hid (∀p:Addr,p.block<w.heap.size→v0.cell? p=w.cell? p):=hide (fun p hp=>hB0.out.cell hp)
 have hwg:w.heap.size≤g:=by omega
 have lw:w.heap.size<v0.heap.size:=by omega
 have xw:w.heap.size∉[g]:=by simp;omega
 have HV0:=hide hv0
 have HG:=hide hg
 clear hcy hcv k1 hv0
 rw[hg] at hly
 clear hg
 go_upto_region 4 with fail
 rw[HV0.out,HG.out]
 go_wp2_with fail
 refine (put32 _ g [] s (by omega) hW0.out (by simp)).mono ?_
 rintro e z1 ⟨rfl,hw1,b1⟩
 have W1:=hide hw1
 have K1:=hide (Besides.kb (KB.refl [g] v0) b1)
 have B1:=hide (hB0.out.trans (b1.below hwg hB0.out.size))
 have e1:=(K1.out.cell (p:=⟨w.heap.size,1,none⟩) lw xw).trans E1.out
 have s1:v0.heap.size≤z1.heap.size:=K1.out.1
 clear hw1 b1 e0 hW0
 go_wp2_with fail
 refine (put16 _ g ([] ++ be 4 s) n (by omega) W1.out (by simp[be_len])).mono ?_
 rintro e z2 ⟨rfl,hw2,b2⟩
 have W2:Hid (Wo z2 g g (headB p ++ rowsB p 0)):=hide (by
  have:=hw2
  rw[headB,HS.out,HLen.out.1,Int.toNat_natCast]
  simpa [rowsB] using this)
 have K2:=hide (Besides.kb K1.out b2)
 have B2:=hide (B1.out.trans (b2.below hwg B1.out.size))
 have e1:=(K2.out.cell (p:=⟨w.heap.size,1,none⟩) lw xw).trans E1.out
 have s2:v0.heap.size≤z2.heap.size:=K2.out.1
 clear hw2 b2 W1 K1 B1
 go_wp2
 go_loopw [24] (fun v24 wr=>∃i:Nat,i≤n∧v24 = .int .i64 i∧Hid (Wo wr g g (headB p ++ rowsB p i))∧Hid (KB [g] v0 wr)∧Hid (Below w.heap.size w wr)) (fun v24 _=>n-(intOf v24).toNat)
 case atStart=>exact⟨0,by omega,rfl,W2,K2,B2⟩
 case round=>
  clear W2 K2 B2 e1
  obtain⟨i,hi,rfl,HW,HK,HBr⟩:=hrel
  have s0:v0.heap.size≤wr.heap.size:=HK.out.1
  by_cases hlt:i<n
  ·obtain⟨v,hv⟩:∃v,p.own[i]?=some v:=⟨_,List.getElem?_eq_getElem (by rw[HLen.out.1];exact hlt)⟩
   obtain⟨x,hx⟩:∃x,p.vals[i]?=some x:=⟨_,List.getElem?_eq_getElem (by rw[HLen.out.2.1];exact hlt)⟩
   obtain⟨c,hc⟩:∃c,p.chg[i]?=some c:=⟨_,List.getElem?_eq_getElem (by rw[HLen.out.2.2.1];exact hlt)⟩
   obtain⟨⟨h,y⟩,hm⟩:∃m,p.inb[i]?=some m:=⟨_,List.getElem?_eq_getElem (by rw[HLen.out.2.2.2];exact hlt)⟩
   obtain⟨r1,r2,r3,r4,r5⟩:=right_elem HRt.out (by omega) hv hx hm
   obtain⟨bo,oo,rfl,lo,dv⟩:=HI.out.own.at1 (i64s_get hv)
   obtain⟨bv,ov,rfl,lv,dx⟩:=HI.out.vals.at1 (i64s_get hx)
   obtain⟨bc,oc,rfl,lc,dc⟩:=HI.out.chg.at1 (show (bools p.chg)[i]?=some (.bool c) by simp[bools,hc])
   obtain⟨bi,oi,rfl,li,dm,dy⟩:=HI.out.inb.ml hm
   dsimp only at dm dy r5
   obtain⟨v,rfl⟩:=Int.eq_ofNat_of_zero_le r1
   obtain⟨x,rfl⟩:=Int.eq_ofNat_of_zero_le r3
   have hI0:(0:Int)≤(i:Int):=by omega
   have hI1:(i:Int)<(n:Int):=by omega
   have HOw:=hide hv;have HVa:=hide hx;have HCh:=hide hc;have HIn:=hide hm
   have xo:bo∉[g]:=by simp;omega
   have xv:bv∉[g]:=by simp;omega
   have xc:bc∉[g]:=by simp;omega
   have xi:bi∉[g]:=by simp;omega
   have lo:bo<v0.heap.size:=by omega
   have lv:bv<v0.heap.size:=by omega
   have lc:bc<v0.heap.size:=by omega
   have li:bi<v0.heap.size:=by omega
   have FX:=hide ((KV.out ⟨bv,ov+i,none⟩ (by show bv<_;omega)).trans dx)
   have FC:=hide ((KV.out ⟨bc,oc+i,none⟩ (by show bc<_;omega)).trans dc)
   have FM:=hide ((KV.out ⟨bi,oi+i*2,none⟩ (by show bi<_;omega)).trans dm)
   have FY:=hide ((KV.out ⟨bi,oi+i*2+1,none⟩ (by show bi<_;omega)).trans dy)
   have c1:=(HK.out.cell (p:=⟨bo,oo+i,none⟩) lo xo).trans ((KV.out ⟨bo,oo+i,none⟩ (by show bo<_;omega)).trans dv)
   obtain⟨out,ho⟩:∃o,headB p ++ rowsB p i=o:=⟨_,rfl⟩
   have HOut:=hide ho
   have hol:out.length≤6+19*i:=by have:=rowsB_len p i;rw[←ho,List.length_append,headB_len];omega
   rw[ho] at HW
   skip
   clear ho hv hx hc hm dv dx dc dm dy r1 r3
   rcases c with _ | _ <;> rcases h with _ | _
   ·have HSN:=hide (rowsB_snoc HOw.out HVa.out HCh.out HIn.out)
    go_wp2_with fail
    refine (put16 _ g out v (by omega) HW.out (by omega)).mono ?_
    rintro e z1 ⟨rfl,hw1,b1⟩
    have W1:=hide hw1
    have K1:=hide (Besides.kb HK.out b1)
    have B1:=hide (HBr.out.trans (b1.below hwg HBr.out.size))
    have s1:v0.heap.size≤z1.heap.size:=K1.out.1
    have d2:=(K1.out.cell (p:=⟨w.heap.size,2,none⟩) lw xw).trans E2.out
    have d3:=(K1.out.cell (p:=⟨w.heap.size,3,none⟩) lw xw).trans E3.out
    have d4:=(K1.out.cell (p:=⟨w.heap.size,4,none⟩) lw xw).trans E4.out
    have f1:=(K1.out.cell (p:=⟨bv,ov+i,none⟩) lv xv).trans FX.out
    clear hw1 b1 c1 HW HK HBr
    go_wp2_with fail
    refine (put64 _ g (out ++ be 2 v) x (by omega) W1.out (by rw[List.length_append,be_len];omega)).mono ?_
    rintro e z2 ⟨rfl,hw2,b2⟩
    have W2:=hide hw2
    have K2:=hide (Besides.kb K1.out b2)
    have B2:=hide (B1.out.trans (b2.below hwg B1.out.size))
    have s2:v0.heap.size≤z2.heap.size:=K2.out.1
    have d3:=(K2.out.cell (p:=⟨w.heap.size,3,none⟩) lw xw).trans E3.out
    have d4:=(K2.out.cell (p:=⟨w.heap.size,4,none⟩) lw xw).trans E4.out
    have f2:=(K2.out.cell (p:=⟨bc,oc+i,none⟩) lc xc).trans FC.out
    have f3:=(K2.out.cell (p:=⟨bi,oi+i*2,none⟩) li xi).trans FM.out
    have f4:=(K2.out.cell (p:=⟨bi,oi+i*2+1,none⟩) li xi).trans FY.out
    clear hw2 b2 d2 f1 W1 K1 B1
    have W2a:=hide (W2.out.below ((Below.refl z2.heap.size z2).alloc (Nat.le_refl _) (.cells #[.bool false,.int .i64 y] 51)))
    have K2a:=hide (K2.out.alloc (.cells #[.bool false,.int .i64 y] 51))
    have B2a:=hide (B2.out.alloc B2.out.size (.cells #[.bool false,.int .i64 y] 51))
    have M0:=heap_alloc_last z2 (.cells #[.bool false,.int .i64 y] 51)
    have hz2g:g≠z2.heap.size:=by have:=W2.out.lt;have:=W2.out.le;omega
    have HM0:=hide M0
    clear M0 W2 K2 B2
    go_wp2_with fail
    refine (put8 _ g ((out ++ be 2 v) ++ be 8 x) 0 (by omega) W2a.out (by simp only[List.length_append,be_len];omega)).mono ?_
    rintro e z3 ⟨rfl,hw3,b3⟩
    have W3:=hide hw3
    have K3:=hide (Besides.kb K2a.out b3)
    have B3:=hide (B2a.out.trans (b3.below hwg B2a.out.size))
    have m1:=(b3.block z2.heap.size (by simp) (fun e=>hz2g e.symm)).trans HM0.out
    obtain⟨n0,n1⟩:=zr2 m1
    have ln:=lt_of_block m1
    clear hw3 b3 d3 d4 f2 f3 f4 W2a K2a B2a HM0 m1
    have W4:Hid (Wo z3 g g (headB p ++ rowsB p (i+1))):=hide (by rw[HSN.out,←List.append_assoc,HOut.out];have:=W3.out;simp only[vB,flagOf,Int.toNat_natCast] at this ⊢;simpa using this)
    go_wp2
    go_roundw
    case rel=>exact⟨i+1,by omega,by go_num,W4,K3,B3⟩
    case measure=>simp[intOf];omega
   ·have r6:=r5 rfl
    obtain⟨y,rfl⟩:=Int.eq_ofNat_of_zero_le r6.1
    have r7:=r6.2
    clear r5 r6
    have HSN:=hide (rowsB_snoc HOw.out HVa.out HCh.out HIn.out)
    go_wp2_with fail
    refine (put16 _ g out v (by omega) HW.out (by omega)).mono ?_
    rintro e z1 ⟨rfl,hw1,b1⟩
    have W1:=hide hw1
    have K1:=hide (Besides.kb HK.out b1)
    have B1:=hide (HBr.out.trans (b1.below hwg HBr.out.size))
    have s1:v0.heap.size≤z1.heap.size:=K1.out.1
    have d2:=(K1.out.cell (p:=⟨w.heap.size,2,none⟩) lw xw).trans E2.out
    have d3:=(K1.out.cell (p:=⟨w.heap.size,3,none⟩) lw xw).trans E3.out
    have d4:=(K1.out.cell (p:=⟨w.heap.size,4,none⟩) lw xw).trans E4.out
    have f1:=(K1.out.cell (p:=⟨bv,ov+i,none⟩) lv xv).trans FX.out
    clear hw1 b1 c1 HW HK HBr
    go_wp2_with fail
    refine (put64 _ g (out ++ be 2 v) x (by omega) W1.out (by rw[List.length_append,be_len];omega)).mono ?_
    rintro e z2 ⟨rfl,hw2,b2⟩
    have W2:=hide hw2
    have K2:=hide (Besides.kb K1.out b2)
    have B2:=hide (B1.out.trans (b2.below hwg B1.out.size))
    have s2:v0.heap.size≤z2.heap.size:=K2.out.1
    have d3:=(K2.out.cell (p:=⟨w.heap.size,3,none⟩) lw xw).trans E3.out
    have d4:=(K2.out.cell (p:=⟨w.heap.size,4,none⟩) lw xw).trans E4.out
    have f2:=(K2.out.cell (p:=⟨bc,oc+i,none⟩) lc xc).trans FC.out
    have f3:=(K2.out.cell (p:=⟨bi,oi+i*2,none⟩) li xi).trans FM.out
    have f4:=(K2.out.cell (p:=⟨bi,oi+i*2+1,none⟩) li xi).trans FY.out
    clear hw2 b2 d2 f1 W1 K1 B1
    have W2a:=hide (W2.out.below ((Below.refl z2.heap.size z2).alloc (Nat.le_refl _) (.cells #[.bool true,.int .i64 y] 51)))
    have K2a:=hide (K2.out.alloc (.cells #[.bool true,.int .i64 y] 51))
    have B2a:=hide (B2.out.alloc B2.out.size (.cells #[.bool true,.int .i64 y] 51))
    have M0:=heap_alloc_last z2 (.cells #[.bool true,.int .i64 y] 51)
    have hz2g:g≠z2.heap.size:=by have:=W2.out.lt;have:=W2.out.le;omega
    have HM0:=hide M0
    clear M0 W2 K2 B2
    go_wp2_with fail
    refine (put8 _ g ((out ++ be 2 v) ++ be 8 x) 2 (by omega) W2a.out (by simp only[List.length_append,be_len];omega)).mono ?_
    rintro e z3 ⟨rfl,hw3,b3⟩
    have W3:=hide hw3
    have K3:=hide (Besides.kb K2a.out b3)
    have B3:=hide (B2a.out.trans (b3.below hwg B2a.out.size))
    have m1:=(b3.block z2.heap.size (by simp) (fun e=>hz2g e.symm)).trans HM0.out
    obtain⟨n0,n1⟩:=zr2 m1
    have ln:=lt_of_block m1
    clear hw3 b3 d3 d4 f2 f3 f4 W2a K2a B2a HM0 m1
    go_wp2_with fail
    refine (put64 _ g (((out ++ be 2 v) ++ be 8 x) ++ be 1 2) y (by omega) W3.out (by simp only[List.length_append,be_len];omega)).mono ?_
    rintro e z4 ⟨rfl,hw4,b4⟩
    have W4:Hid (Wo z4 g g (headB p ++ rowsB p (i+1))):=hide (by rw[HSN.out,←List.append_assoc,HOut.out];have:=hw4;simp only[vB,flagOf,Int.toNat_natCast] at this ⊢;simpa using this)
    have K4:=hide (Besides.kb K3.out b4)
    have B4:=hide (B3.out.trans (b4.below hwg B3.out.size))
    clear hw4 b4 n0 n1 W3 K3 B3
    go_wp2
    go_roundw
    case rel=>exact⟨i+1,by omega,by go_num,W4,K4,B4⟩
    case measure=>simp[intOf];omega
   ·have HSN:=hide (rowsB_snoc HOw.out HVa.out HCh.out HIn.out)
    go_wp2_with fail
    refine (put16 _ g out v (by omega) HW.out (by omega)).mono ?_
    rintro e z1 ⟨rfl,hw1,b1⟩
    have W1:=hide hw1
    have K1:=hide (Besides.kb HK.out b1)
    have B1:=hide (HBr.out.trans (b1.below hwg HBr.out.size))
    have s1:v0.heap.size≤z1.heap.size:=K1.out.1
    have d2:=(K1.out.cell (p:=⟨w.heap.size,2,none⟩) lw xw).trans E2.out
    have d3:=(K1.out.cell (p:=⟨w.heap.size,3,none⟩) lw xw).trans E3.out
    have d4:=(K1.out.cell (p:=⟨w.heap.size,4,none⟩) lw xw).trans E4.out
    have f1:=(K1.out.cell (p:=⟨bv,ov+i,none⟩) lv xv).trans FX.out
    clear hw1 b1 c1 HW HK HBr
    go_wp2_with fail
    refine (put64 _ g (out ++ be 2 v) x (by omega) W1.out (by rw[List.length_append,be_len];omega)).mono ?_
    rintro e z2 ⟨rfl,hw2,b2⟩
    have W2:=hide hw2
    have K2:=hide (Besides.kb K1.out b2)
    have B2:=hide (B1.out.trans (b2.below hwg B1.out.size))
    have s2:v0.heap.size≤z2.heap.size:=K2.out.1
    have d3:=(K2.out.cell (p:=⟨w.heap.size,3,none⟩) lw xw).trans E3.out
    have d4:=(K2.out.cell (p:=⟨w.heap.size,4,none⟩) lw xw).trans E4.out
    have f2:=(K2.out.cell (p:=⟨bc,oc+i,none⟩) lc xc).trans FC.out
    have f3:=(K2.out.cell (p:=⟨bi,oi+i*2,none⟩) li xi).trans FM.out
    have f4:=(K2.out.cell (p:=⟨bi,oi+i*2+1,none⟩) li xi).trans FY.out
    clear hw2 b2 d2 f1 W1 K1 B1
    have W2a:=hide (W2.out.below ((Below.refl z2.heap.size z2).alloc (Nat.le_refl _) (.cells #[.bool false,.int .i64 y] 51)))
    have K2a:=hide (K2.out.alloc (.cells #[.bool false,.int .i64 y] 51))
    have B2a:=hide (B2.out.alloc B2.out.size (.cells #[.bool false,.int .i64 y] 51))
    have M0:=heap_alloc_last z2 (.cells #[.bool false,.int .i64 y] 51)
    have hz2g:g≠z2.heap.size:=by have:=W2.out.lt;have:=W2.out.le;omega
    have HM0:=hide M0
    clear M0 W2 K2 B2
    go_wp2_with fail
    refine (put8 _ g ((out ++ be 2 v) ++ be 8 x) 1 (by omega) W2a.out (by simp only[List.length_append,be_len];omega)).mono ?_
    rintro e z3 ⟨rfl,hw3,b3⟩
    have W3:=hide hw3
    have K3:=hide (Besides.kb K2a.out b3)
    have B3:=hide (B2a.out.trans (b3.below hwg B2a.out.size))
    have m1:=(b3.block z2.heap.size (by simp) (fun e=>hz2g e.symm)).trans HM0.out
    obtain⟨n0,n1⟩:=zr2 m1
    have ln:=lt_of_block m1
    clear hw3 b3 d3 d4 f2 f3 f4 W2a K2a B2a HM0 m1
    have W4:Hid (Wo z3 g g (headB p ++ rowsB p (i+1))):=hide (by rw[HSN.out,←List.append_assoc,HOut.out];have:=W3.out;simp only[vB,flagOf,Int.toNat_natCast] at this ⊢;simpa using this)
    go_wp2
    go_roundw
    case rel=>exact⟨i+1,by omega,by go_num,W4,K3,B3⟩
    case measure=>simp[intOf];omega
   have r6:=r5 rfl
   obtain⟨y,rfl⟩:=Int.eq_ofNat_of_zero_le r6.1
   have r7:=r6.2
   clear r5 r6
   have HSN:=hide (rowsB_snoc HOw.out HVa.out HCh.out HIn.out)
   go_wp2_with fail
   refine (put16 _ g out v (by omega) HW.out (by omega)).mono ?_
   rintro e z1 ⟨rfl,hw1,b1⟩
   have W1:=hide hw1
   have K1:=hide (Besides.kb HK.out b1)
   have B1:=hide (HBr.out.trans (b1.below hwg HBr.out.size))
   have s1:v0.heap.size≤z1.heap.size:=K1.out.1
   have d2:=(K1.out.cell (p:=⟨w.heap.size,2,none⟩) lw xw).trans E2.out
   have d3:=(K1.out.cell (p:=⟨w.heap.size,3,none⟩) lw xw).trans E3.out
   have d4:=(K1.out.cell (p:=⟨w.heap.size,4,none⟩) lw xw).trans E4.out
   have f1:=(K1.out.cell (p:=⟨bv,ov+i,none⟩) lv xv).trans FX.out
   clear hw1 b1 c1 HW HK HBr
   go_wp2_with fail
   refine (put64 _ g (out ++ be 2 v) x (by omega) W1.out (by rw[List.length_append,be_len];omega)).mono ?_
   rintro e z2 ⟨rfl,hw2,b2⟩
   have W2:=hide hw2
   have K2:=hide (Besides.kb K1.out b2)
   have B2:=hide (B1.out.trans (b2.below hwg B1.out.size))
   have s2:v0.heap.size≤z2.heap.size:=K2.out.1
   have d3:=(K2.out.cell (p:=⟨w.heap.size,3,none⟩) lw xw).trans E3.out
   have d4:=(K2.out.cell (p:=⟨w.heap.size,4,none⟩) lw xw).trans E4.out
   have f2:=(K2.out.cell (p:=⟨bc,oc+i,none⟩) lc xc).trans FC.out
   have f3:=(K2.out.cell (p:=⟨bi,oi+i*2,none⟩) li xi).trans FM.out
   have f4:=(K2.out.cell (p:=⟨bi,oi+i*2+1,none⟩) li xi).trans FY.out
   clear hw2 b2 d2 f1 W1 K1 B1
   have W2a:=hide (W2.out.below ((Below.refl z2.heap.size z2).alloc (Nat.le_refl _) (.cells #[.bool true,.int .i64 y] 51)))
   have K2a:=hide (K2.out.alloc (.cells #[.bool true,.int .i64 y] 51))
   have B2a:=hide (B2.out.alloc B2.out.size (.cells #[.bool true,.int .i64 y] 51))
   have M0:=heap_alloc_last z2 (.cells #[.bool true,.int .i64 y] 51)
   have hz2g:g≠z2.heap.size:=by have:=W2.out.lt;have:=W2.out.le;omega
   have HM0:=hide M0
   clear M0 W2 K2 B2
   go_wp2_with fail
   refine (put8 _ g ((out ++ be 2 v) ++ be 8 x) 3 (by omega) W2a.out (by simp only[List.length_append,be_len];omega)).mono ?_
   rintro e z3 ⟨rfl,hw3,b3⟩
   have W3:=hide hw3
   have K3:=hide (Besides.kb K2a.out b3)
   have B3:=hide (B2a.out.trans (b3.below hwg B2a.out.size))
   have m1:=(b3.block z2.heap.size (by simp) (fun e=>hz2g e.symm)).trans HM0.out
   obtain⟨n0,n1⟩:=zr2 m1
   have ln:=lt_of_block m1
   clear hw3 b3 d3 d4 f2 f3 f4 W2a K2a B2a HM0 m1
   go_wp2_with fail
   refine (put64 _ g (((out ++ be 2 v) ++ be 8 x) ++ be 1 3) y (by omega) W3.out (by simp only[List.length_append,be_len];omega)).mono ?_
   rintro e z4 ⟨rfl,hw4,b4⟩
   have W4:Hid (Wo z4 g g (headB p ++ rowsB p (i+1))):=hide (by rw[HSN.out,←List.append_assoc,HOut.out];have:=hw4;simp only[vB,flagOf,Int.toNat_natCast] at this ⊢;simpa using this)
   have K4:=hide (Besides.kb K3.out b4)
   have B4:=hide (B3.out.trans (b4.below hwg B3.out.size))
   clear hw4 b4 n0 n1 W3 K3 B3
   go_wp2
   go_roundw
   case rel=>exact⟨i+1,by omega,by go_num,W4,K4,B4⟩
   case measure=>simp[intOf];omega
  obtain rfl:i=n:=by omega
  have hol:(headB p ++ rowsB p i).length≤1000000000000:=by have:=rowsB_len p i;rw[List.length_append,headB_len];omega
  have HPB:Hid (headB p ++ rowsB p i=putB p):=hide (by unfold putB;rw[HLen.out.1])
  have hol2:(putB p).length≤1000000:=by have:=putB_len p;rw[HLen.out.1] at this;omega
  go_wp2_with fail
  refine (out_any _ g _ HW.out hol).mono ?_
  rw[HPB.out]
  rintro e z3 ⟨rfl,hh,b3⟩
  have HFin:Hid (PutPost w (putB p) 0 (.returned (.tuple #[.slice (some ⟨wr.heap.size,0,none⟩) (putB p).length (putB p).length,.int .i64 0])) z3):=hide ⟨_,_,_,rfl,rfl,by have:=Rd.of_block hh;simpa using this,Nat.le_refl _,by omega,HBr.out.trans (b3.mono HBr.out.size)⟩
  clear hh b3 hol
  go_wp2
  go_ret2
  exact HFin.out
theorem sput_any (w:World) (p:SPart) (Ao Av Ac Ai:Option Addr) (no nv nc ni co cv cc ci:Nat) (hlen:SLen p no nv nc ni) (bn:no≤2000) (hin:SIn w p Ao Av Ac Ai) :
  Calls Tryz.prog 10 #[.agg #[.int .i64 p.step,.slice Ao no co,.slice Av nv cv,.slice Ac nc cc,.slice Ai ni ci]] w (PutPost w (putOut p) (putCode p)):=by
 rcases hr:rightB p with _ | _
 ·rw[show putOut p=[] by simp[putOut,hr],show putCode p=4 by simp[putCode,hr]]
  exact sput_bad w p Ao Av Ac Ai no nv nc ni co cv cc ci hlen (by omega) hin hr
 rw[show putOut p=putB p by simp[putOut,hr],show putCode p=0 by simp[putCode,hr]]
 exact sput_ok w p Ao Av Ac Ai no nv nc ni co cv cc ci hlen bn hin hr
theorem rread_no (w:World) (A:Option Addr) (bs:List UInt8) (L c:Nat) (s k:Nat) (z y:Int) (hz:z=(s:Int)) (hy:y=(k:Int)) (hL:bs.length=L) (hl:L≤1000000) (hs:s≤2000000) (hk:k≤8) (h:L<s+k) :
  Calls Tryz.prog 62 #[.slice A L c,.int .i64 z,.int .i64 y] w fun e w'=>e = .returned (.tuple #[.int .u64 0,.bool false])∧w=w':=by
 have h1:(L:Int)<z+y:=by omega
 have h2:0≤z:=by omega
 have h3:0≤y:=by omega
 have h4:z≤2000000:=by omega
 have h5:y≤8:=by omega
 clear hz hy hL h
 go_enter Tryz.func62,Tryz.ntmps62
 go_wp2
 go_ret2
 exact⟨rfl,rfl⟩
theorem rread_ok (w:World) (A:Option Addr) (bs:List UInt8) (L c:Nat) (s k:Nat) (z y:Int) (hz:z=(s:Int)) (hy:y=(k:Int)) (hL:bs.length=L) (hl:L≤1000000) (hR:Rd w w.heap.size A (u8s bs)) (hk:k≤8) (h:s+k≤L) :
  Calls Tryz.prog 62 #[.slice A L c,.int .i64 z,.int .i64 y] w fun e w'=>e = .returned (.tuple #[.int .u64 (rz.num ((bs.drop s).take k):Nat),.bool true])∧w=w':=by
 subst hz hy
 have hs2:s≤1000000:=by omega
 have h1:(s:Int)+(k:Int)≤(L:Int):=by omega
 have HR:=hide hR
 have HL:=hide hL
 clear hR hL
 go_enter Tryz.func62,Tryz.ntmps62
 go_wp2
 go_loop [8,9] (fun v8 v9=>∃i:Nat,i≤k∧v9 = .int .i64 i∧v8 = .int .u64 (rz.num (((bs.drop s).take k).take i):Nat)) (fun _ v9=>k-(intOf v9).toNat)
 case atStart=>exact⟨0,by omega,rfl,rfl⟩
 case round=>
  obtain⟨i,hi,rfl,rfl⟩:=hrel
  by_cases hlt:i<k
  ·have hlen:((bs.drop s).take k).length=k:=by rw[List.length_take,List.length_drop,HL.out];omega
   have hil:i<((bs.drop s).take k).length:=by rw[hlen];exact hlt
   have ht:=hide (rz.num_take hil)
   have hn:=num_lt_of (l:=((bs.drop s).take k).take i) (k:=7) (by rw[List.length_take];omega)
   obtain⟨b,hb⟩:∃b,((bs.drop s).take k)[i]=b:=⟨_,rfl⟩
   have hbs:bs[s+i]?=some b:=by
    rw[←hb]
    have e:=List.getElem?_eq_getElem hil
    rw[List.getElem?_take,if_pos hlt,List.getElem?_drop] at e
    exact e
   have hbb:=b.toNat_lt
   rw[hb] at ht
   obtain⟨bb,off,rfl,hlb,d0⟩:=HR.out.at_ (k:=s+i) (by rw[u8s_len,HL.out];omega)
   have hu:(u8s bs)[s+i]?=some (.int .u8 (b.toNat:Int)):=by simp[u8s,hbs]
   have d1:=d0 (s+i) _ hu
   clear hu
   obtain⟨n,hnn⟩:∃n,rz.num (((bs.drop s).take k).take i)=n:=⟨_,rfl⟩
   obtain⟨q,hq⟩:∃q,b.toNat=q:=⟨_,rfl⟩
   rw[hnn,hq] at ht
   rw[hnn] at hn ⊢
   rw[hq] at hbb d1
   have hn7:n<72057594037927936:=by simpa using hn
   have hI0:(0:Int)≤(s:Int)+(i:Int):=by omega
   have hI1:(s:Int)+(i:Int)<(L:Int):=by omega
   have hI2:((s:Int)+(i:Int)).toNat=s+i:=by omega
   clear d0 hn hb hbs hnn hq hil hlen
   go_wp2
   go_round
   case rel=>exact⟨i+1,by omega,by go_num,by rw[ht.out];go_num⟩
   case measure=>simp[intOf];omega
  obtain rfl:i=k:=by omega
  have HT:Hid (((bs.drop s).take i).take i=(bs.drop s).take i):=hide (by rw[List.take_take,Nat.min_self])
  go_wp2
  go_ret2
  refine⟨?_,rfl⟩
  show Ending.returned (.tuple #[.int .u64 (rz.num (((bs.drop s).take i).take i):Nat),.bool true])=_
  rw[HT.out]
end Go.Proofs.YtpojjmbalgmcoaaGreat

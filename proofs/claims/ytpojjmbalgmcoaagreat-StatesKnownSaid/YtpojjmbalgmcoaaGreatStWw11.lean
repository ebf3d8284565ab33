/- Lemmas: Jst. -/
import Derived.Deep.DeepCutAuto
import Derived.Test.YtpojjmbalgmcoaaGreatStWw10
set_option linter.unusedVariables false
set_option linter.unusedSimpArgs false
set_option maxRecDepth 100000
set_option maxHeartbeats 16000000
namespace Go.Proofs.YtpojjmbalgmcoaaGreat
open Go.RowKit
abbrev KeptX (v:World) (B1 B2 B3:Nat) (w:World):Prop:=∀p:Addr,p.block<v.heap.size→p.block≠B1→p.block≠B2→p.block≠B3→w.cell? p=v.cell? p
theorem stL_atA {P:Program} {ops:Array Oper} {Q:Exit→Act→World→Prop} {md:Region.Mode} {S:World→Prop} {ex:List Nat} {i:Nat} {o:Oper} {fuel:Nat} {listed:Array Bool} {a:Act} {w:World} (hi:ops[i]?=some o)
  (hr:Region.ready md ops listed=[i]) (hw:Region.wanted o (yielded ops a.tmps)=true)
  (h:∀K':Act→World→Prop,Shut (∀a w,S w→(S w→wpAnyL P md ops Q S ex fuel (listed.setIfInBounds i true) a w)→K' a w)→Oper.wp P o a w K' Q):wpAnyL P md ops Q S ex (fuel+1) listed a w:=
 wpAnyL_one hi hr hw fun K hK=>h K fun a w hS hr=>hK a w (fun _ _=>hS) (hr hS)
theorem owned_upto_ (V:Nat) (n k:Int) (hV:V≤512):ownedF (V:Int) n k=ownUpto n k V:=by
 unfold ownedF
 congr 1
 omega
theorem right_len {p:SPart} (h:rightB p=true):p.vals.length=p.own.length∧p.chg.length=p.own.length∧p.inb.length=p.own.length:=by
 unfold rightB at h
 simp only[Bool.and_eq_true,decide_eq_true_eq] at h
 exact⟨h.1.1.1.2,h.1.1.2,h.1.2⟩
theorem hak {w:World} {o c:Obj} {b:Nat} (h:w.heap[b]?=some c):(w.alloc o).heap[b]?=some c:=(((Below.refl w.heap.size w).alloc (Nat.le_refl _) o).block b (Array.getElem?_eq_some_iff.1 h).1).trans h
theorem ha3 (w:World) (o0 o1 o2 o3:Obj):((((w.alloc o0).alloc o1).alloc o2).alloc o3).heap[w.heap.size+1+1+1]?=some o3:=by
 have h:=heap_alloc_last (((w.alloc o0).alloc o1).alloc o2) o3
 rw[World.size_alloc,World.size_alloc,World.size_alloc] at h
 exact h
theorem ha2 (w:World) (o0 o1 o2 o3:Obj):((((w.alloc o0).alloc o1).alloc o2).alloc o3).heap[w.heap.size+1+1]?=some o2:=by
 have h:=heap_alloc_last ((w.alloc o0).alloc o1) o2
 rw[World.size_alloc,World.size_alloc] at h
 exact hak h
theorem ha1 (w:World) (o0 o1 o2 o3:Obj):((((w.alloc o0).alloc o1).alloc o2).alloc o3).heap[w.heap.size+1]?=some o1:=by
 have h:=heap_alloc_last (w.alloc o0) o1
 rw[World.size_alloc] at h
 exact hak (hak h)
theorem ha0 (w:World) (o0 o1 o2 o3:Obj):((((w.alloc o0).alloc o1).alloc o2).alloc o3).heap[w.heap.size]?=some o0:=hak (hak (hak (heap_alloc_last w o0)))
theorem kald {v w:World} {o:Obj} (h:Kept v w.drew) (hs:v.heap.size≤w.heap.size):Kept v (w.alloc o).drew:=fun p hp=>(World.cell?_alloc_lt w o p (Nat.lt_of_lt_of_le hp hs)).trans (h p hp)
theorem name4 {v wr:World} {o0 o1 o2 o3:Obj} {C:World→Prop} (hb:Below v.heap.size v wr)
  (h:∀u4:World,u4.heap[wr.heap.size]?=some o0→u4.heap[wr.heap.size+1]?=some o1→u4.heap[wr.heap.size+1+1]?=some o2→u4.heap[wr.heap.size+1+1+1]?=some o3→Hid (Below v.heap.size v u4)→(v.heap.size≤wr.heap.size∧wr.heap.size<wr.heap.size+1∧wr.heap.size+1<wr.heap.size+1+1∧wr.heap.size+1+1<wr.heap.size+1+1+1)→C u4):C ((((wr.alloc o0).alloc o1).alloc o2).alloc o3).drew:=by
 have hs:=hb.size
 refine h _ (ha0 wr _ _ _ _) (ha1 wr _ _ _ _) (ha2 wr _ _ _ _) (ha3 wr _ _ _ _) (hide ?_) ⟨hs,by omega,by omega,by omega⟩
 exact ((((hb.alloc hs _).alloc (by simp;omega) _).alloc (by simp;omega) _).alloc (by simp;omega) _).drew
theorem make_i (w:World) (n:Nat) (i:TypeInfo) (hi:Tryz.prog.info? 2=some i) (hz:i.zero=some (.int .i64 0)) (hs:i.size=1) (hb:i.bytes=8) (hn:n≤4000) :
  (Instr.makeSlice 29 (.int .i64 (n:Int)) (.int .i64 (n:Int))).run Tryz.prog w = .ok (.slice (some ⟨w.heap.size,0,none⟩) n n) (w.alloc (.cells (madeCells #[.int .i64 0] n) 2)):=by
 have hr:=run_make (P:=Tryz.prog) w 29 2 i _ Tryz.underlying29 hi hz .i64 .i64 n n (by omega) (Int.le_refl _) (by rw[hb];omega) (by omega)
 simp only[Int.toNat_natCast,hs,Nat.mul_one] at hr
 exact hr
theorem make_b (w:World) (n:Nat) (i:TypeInfo) (hi:Tryz.prog.info? 4=some i) (hz:i.zero=some (.bool false)) (hs:i.size=1) (hb:i.bytes=1) (hn:n≤4000) :
  (Instr.makeSlice 30 (.int .i64 (n:Int)) (.int .i64 (n:Int))).run Tryz.prog w = .ok (.slice (some ⟨w.heap.size,0,none⟩) n n) (w.alloc (.cells (madeCells #[.bool false] n) 4)):=by
 have hr:=run_make (P:=Tryz.prog) w 30 4 i _ Tryz.underlying30 hi hz .i64 .i64 n n (by omega) (Int.le_refl _) (by rw[hb];omega) (by omega)
 simp only[Int.toNat_natCast,hs,Nat.mul_one] at hr
 exact hr
theorem make_mail (w:World) (n:Nat) (i:TypeInfo) (hi:Tryz.prog.info? 51=some i) (hz:i.zero=some (.agg #[.bool false,.int .i64 0])) (hs:i.size=2) (hb:i.bytes=16) (hn:n≤4000) :
  (Instr.makeSlice 31 (.int .i64 (n:Int)) (.int .i64 (n:Int))).run Tryz.prog w = .ok (.slice (some ⟨w.heap.size,0,none⟩) n n) (w.alloc (.cells (madeCells #[.bool false,.int .i64 0] (n*2)) 51)):=by
 have hr:=run_make (P:=Tryz.prog) w 31 51 i _ Tryz.underlying31 hi hz .i64 .i64 n n (by omega) (Int.le_refl _) (by rw[hb];omega) (by omega)
 simp only[Int.toNat_natCast,hs] at hr
 exact hr
theorem sjoin_any (w:World) (A:Option Addr) (ps:List SPart) (L c:Nat) (hL:ps.length=L) (h64:L≤64) (hP:PRow w A ps) (h60:∀p∈ps,p.own.length≤60) :
  Calls Tryz.prog 20 #[.slice A L c] w (JoinPost w ps):=by
 obtain⟨a1,a1i,a1z,a1s,a1b⟩:=info_parts (show (Tryz.prog.info? 2).map (fun i=>(i.zero,i.size,i.bytes))=some (some (.int .i64 0),1,8) by kernel_rfl)
 obtain⟨a2,a2i,a2z,a2s,a2b⟩:=info_parts (show (Tryz.prog.info? 4).map (fun i=>(i.zero,i.size,i.bytes))=some (some (.bool false),1,1) by kernel_rfl)
 obtain⟨a3,a3i,a3z,a3s,a3b⟩:=info_parts (show (Tryz.prog.info? 51).map (fun i=>(i.zero,i.size,i.bytes))=some (some (.agg #[.bool false,.int .i64 0]),2,16) by kernel_rfl)
 obtain⟨v0,hu⟩:∃u,w.alloc (.cells #[.int .i64 0,.slice none 0 0,.slice none 0 0,.slice none 0 0,.int .i64 0,.int .i64 0] 33)=u:=⟨_,rfl⟩
 have hzu:v0.heap.size=w.heap.size+1:=by rw[←hu];simp
 have HB0:=hide (show Below w.heap.size w v0 by rw[←hu];exact (Below.refl _ _).alloc (Nat.le_refl _) _)
 have M0:=hide (show v0.heap[w.heap.size]?=some (.cells #[.int .i64 0,.slice none 0 0,.slice none 0 0,.slice none 0 0,.int .i64 0,.int .i64 0] 33) by rw[←hu];exact heap_alloc_last _ _)
 have HP:=hide (hP.next HB0.out)
 have HU:=hide hu
 have HL:=hide hL
 have H60:=hide h60
 clear hu hP hL h60
 by_cases hL0:L=0
 ·subst hL0
  have HN:Hid (¬okJ ps):=hide (fun h=>by have h1:=h.1;have h2:=HL.out;omega)
  have ZW:=M0
  have HBf:=HB0
  go_enter Tryz.func20,Tryz.ntmps20
  go_upto_region 1 with fail
  rw[HU.out]
  obtain⟨zc0,zc1,zc2,zc3,zc4,zc5⟩:=zr6 ZW.out
  have zq:=zf ZW.out;have zcf0:=zq 0;have zcf1:=zq 1;have zcf2:=zq 2;have zcf3:=zq 3;have zcf4:=zq 4;have zcf5:=zq 5;clear zq
  have HFin:=hide (six_fin (.int .i64 0) (.slice none 0 0) (.slice none 0 0) (.slice none 0 0) (.int .i64 0) (.int .i64 0) (.int .i64 0) (.slice none 0 0) (.slice none 0 0) (.slice none 0 0) (.int .i64 0) (.int .i64 0) (Nat.le_refl w.heap.size) ZW.out HBf.out)
  go_wp2
  obtain⟨f,hf,hfB,h6,hfs,hfo⟩:=HFin.out
  rw[hf]
  obtain⟨y0,y1,y2,y3,y4,y5⟩:=zr6 h6
  exact bodyPost_ret (v:=.tuple #[.agg #[.int .i64 0,.slice none 0 0,.slice none 0 0,.slice none 0 0,.int .i64 0,.int .i64 0],.int .i64 4]) (by simp[results,Tryz.results20,go_sem,y0,y1,y2,y3,y4,y5]) rfl (.inr ⟨HN.out,rfl,hfB⟩)
 have hL1:¬(L:Int)<1:=by omega
 have hL6:¬(64:Int)<(L:Int):=by omega
 have hLI0:(0:Int)<(L:Int):=by omega
 have hLN:0<L:=by omega
 go_enter Tryz.func20,Tryz.ntmps20
 go_upto_region 1 with fail
 rw[HU.out]
 go_wp2
 go_loopw [23,4] (fun v23 v4 wr=>∃i:Nat,i≤L∧v23 = .int .i64 (i:Int)∧v4 = .int .i64 (sumOwn ps i:Int)∧Hid (Below v0.heap.size v0 wr)) (fun v23 _ _=>L-(intOf v23).toNat)
 case atStart=>exact⟨0,by omega,rfl,by rw[sumOwn_zero];rfl,hide (Below.refl _ _)⟩
 case round=>
  obtain⟨i,hi,rfl,rfl,hbr⟩:=hrel
  have srw:v0.heap.size≤wr.heap.size:=hbr.out.size
  by_cases hlt:i<L
  ·have hI1:(i:Int)<(L:Int):=by omega
   obtain⟨p,hp⟩:∃p,ps[i]?=some p:=⟨_,List.getElem?_eq_getElem (by rw[HL.out];omega)⟩
   obtain⟨b,off,rfl,hbl,Ao,Av,Ac,Ai,no,nv,nc,ni,co,cv,cc,ci,d0,d1,d2,d3,d4,hlen,hin,hbd⟩:=HP.out.get hp
   have HLen:=hide hlen
   have HIn:=hide hin
   have hno:no≤60:=by have:=H60.out p (List.mem_of_getElem? hp);rw[HLen.out.1] at this;exact this
   have e0:wr.cell? ⟨b,off+i*5,none⟩=some (.int .i64 p.step):=(hbr.out.cell (p:=⟨b,off+i*5,none⟩) hbl).trans d0
   have e1:wr.cell? ⟨b,off+i*5+1,none⟩=some (.slice Ao no co):=(hbr.out.cell (p:=⟨b,off+i*5+1,none⟩) hbl).trans d1
   have e2:wr.cell? ⟨b,off+i*5+2,none⟩=some (.slice Av nv cv):=(hbr.out.cell (p:=⟨b,off+i*5+2,none⟩) hbl).trans d2
   have e3:wr.cell? ⟨b,off+i*5+3,none⟩=some (.slice Ac nc cc):=(hbr.out.cell (p:=⟨b,off+i*5+3,none⟩) hbl).trans d3
   have e4:wr.cell? ⟨b,off+i*5+4,none⟩=some (.slice Ai ni ci):=(hbr.out.cell (p:=⟨b,off+i*5+4,none⟩) hbl).trans d4
   have hlb:b<wr.heap.size:=by omega
   have hS:=hide (sumOwn_succ hp)
   have hsl:=sumOwn_le H60.out i (by rw[HL.out];omega)
   obtain⟨s,hs⟩:∃s,sumOwn ps i=s:=⟨_,rfl⟩
   rw[hs] at hsl ⊢
   have HS:=hide hs
   have hs0:(0:Int)≤(s:Int):=by omega
   have hs1:(s:Int)≤3840:=by omega
   have hno0:(0:Int)≤(no:Int):=by omega
   have hno1:(no:Int)≤60:=by omega
   have HB2:=hide (hbr.out.alloc srw (.cells #[.int .i64 p.step,.slice Ao no co,.slice Av nv cv,.slice Ac nc cc,.slice Ai ni ci] 42))
   have e9:IntKind.i64.wrap ((s:Int)+(no:Int))=(s:Int)+(no:Int):=IntWalk.i64_in _ (by omega)
   have HSum:Hid (((sumOwn ps (i+1):Nat):Int)=(s:Int)+(no:Int)):=hide (by rw[hS.out,HS.out,HLen.out.1];omega)
   clear d0 d1 d2 d3 d4 hs hsl hlen hin hbd hbr hp
   go_wp2
   go_roundw
   case rel=>exact⟨i+1,by omega,by go_num,by rw[HSum.out],HB2⟩
   case measure=>simp[intOf];omega
  obtain rfl:L=i:=by omega
  have hLl:=HL.out
  obtain⟨n,hn⟩:∃n,nAll ps=n:=⟨_,rfl⟩
  have hn4:n≤3840:=by have:=sumOwn_le H60.out ps.length (Nat.le_refl _);rw[show sumOwn ps ps.length=n from hn] at this;omega
  rw[show sumOwn ps L=n by rw[←hn];unfold nAll;rw[hLl]]
  have HN0:=hide hn
  have HBw:=hbr
  obtain⟨wr,rfl⟩:∃z:World,z=wr:=⟨_,rfl⟩
  clear hbr hlt hn hLl
  have hmk1:∀w:World,(Instr.makeSlice 29 (.int .i64 (n:Int)) (.int .i64 (n:Int))).run Tryz.prog w = .ok (.slice (some ⟨w.heap.size,0,none⟩) n n) (w.alloc (.cells (madeCells #[.int .i64 0] n) 2)):=fun w=>make_i w n a1 a1i a1z a1s a1b (by omega)
  have hmk2:∀w:World,(Instr.makeSlice 30 (.int .i64 (n:Int)) (.int .i64 (n:Int))).run Tryz.prog w = .ok (.slice (some ⟨w.heap.size,0,none⟩) n n) (w.alloc (.cells (madeCells #[.bool false] n) 4)):=fun w=>make_b w n a2 a2i a2z a2s a2b (by omega)
  have hmk3:∀w:World,(Instr.makeSlice 31 (.int .i64 (n:Int)) (.int .i64 (n:Int))).run Tryz.prog w = .ok (.slice (some ⟨w.heap.size,0,none⟩) n n) (w.alloc (.cells (madeCells #[.bool false,.int .i64 0] (n*2)) 51)):=fun w=>make_mail w n a3 a3i a3z a3s a3b (by omega)
  obtain⟨p0,hp0⟩:∃p,ps[0]?=some p:=⟨_,List.getElem?_eq_getElem (by rw[HL.out];omega)⟩
  obtain⟨b,off,rfl,hbl,Ao,Av,Ac,Ai,no,nv,nc,ni,co,cv,cc,ci,d0,-,-,-,-,-,-,-⟩:=HP.out.get hp0
  obtain⟨st,hst⟩:∃st,stepJ ps=st:=⟨_,rfl⟩
  have hst0:p0.step=st:=by rw[←hst];unfold stepJ;rw[List.getD_eq_getElem?_getD,hp0];rfl
  rw[hst0] at d0
  have c0:wr.cell? ⟨b,off,none⟩=some (.int .i64 st):=(HBw.out.cell (p:=⟨b,off,none⟩) hbl).trans (by simpa using d0)
  have hlb:b<wr.heap.size:=by have:=HBw.out.size;omega
  have HSt:=hide hst
  have hvw:=HBw.out.size
  clear d0 hst hst0 hp0 Ao Av Ac Ai no nv nc ni co cv cc ci p0
  go_upto_region 9 with fail
  go_cut [7] (fun v7 wc=>Hid (JMid w v0 st n v7 wc))
  case first=>
   as_aux_lemma=>
    refine wpL_region (S:=Kept wr) [12] (by kernel_rfl) (Kept.drew wr) (fun hS0=>?_)
    refine tla 0 33 ?_
    refine tla 1 34 ?_
    refine tla 2 35 ?_
    refine tla 3 36 ?_
    refine tla 4 37 ?_
    refine tla 6 39 ?_
    refine tla 8 41 ?_
    refine call4L_at (i0:=5) (i1:=7) (i2:=9) (i3:=11) (by simp only[zqa,zqb,zqc];rfl) (by simp only[zqa,zqb,zqc];rfl) (by simp only[zqa,zqb,zqc];rfl) (by simp only[zqa,zqb,zqc];rfl) (by kernel_rfl) rfl rfl rfl rfl (fun K hK=>?ta) (fun K hK=>?tb) (fun K hK=>?tc) (fun K hK=>?td)
    case' ta=>
     go_simp
     refine hK.out _ _ (kald hS0 (Nat.le_refl _)) (fun hSn=>?_)
     clear hK K
     try simp only[zqd,zqe,zqf]
     refine call3L_at (i0:=7) (i1:=9) (i2:=11) (by simp only[zqa,zqb,zqc];rfl) (by simp only[zqa,zqb,zqc];rfl) (by simp only[zqa,zqb,zqc];rfl) (by kernel_rfl) rfl rfl rfl (fun K hK=>?taa) (fun K hK=>?tab) (fun K hK=>?tac)
     case' taa=>
      go_simp
      refine hK.out _ _ (kald hSn (by simp only[World.size_alloc];omega)) (fun hSn=>?_)
      clear hK K
      try simp only[zqd,zqe,zqf]
      refine call2L_at (i:=9) (j:=11) (by simp only[zqa,zqb,zqc];rfl) (by simp only[zqa,zqb,zqc];rfl) (by kernel_rfl) rfl rfl (fun K hK=>?taaa) (fun K hK=>?taab)
      case' taaa=>
       go_simp
       refine hK.out _ _ (kald hSn (by simp only[World.size_alloc];omega)) (fun hSn=>?_)
       clear hK K
       try simp only[zqd,zqe,zqf]
       refine tla 10 43 ?_
       refine cl 11 7 fun K hK=>?_
       go_simp
       refine hK.out _ _ (kald hSn (by simp only[World.size_alloc];omega)) (fun hSn=>?_)
       clear hK K
       try simp only[zqd,zqe,zqf]
       refine name4 (C:=fun W=>wpAnyL _ _ _ _ _ _ _ _ _ W) HBw.out ?_
       intro u4 q1 q2 q3 cP HBu hch
       generalize wr.heap.size+1+1+1=BP at cP hch ⊢
       generalize wr.heap.size+1+1=B3 at q3 hch ⊢
       generalize wr.heap.size+1=B2 at q2 hch ⊢
       generalize wr.heap.size=B1 at q1 hch ⊢
      case' taab=>
       go_simp
       refine hK.out _ _ (kald hSn (by simp only[World.size_alloc];omega)) (fun hSn=>?_)
       clear hK K
       try simp only[zqd,zqe,zqf]
       refine cl 9 42 fun K hK=>?_
       go_simp
       refine hK.out _ _ (kald hSn (by simp only[World.size_alloc];omega)) (fun hSn=>?_)
       clear hK K
       try simp only[zqd,zqe,zqf]
       refine tla 10 43 ?_
       refine name4 (C:=fun W=>wpAnyL _ _ _ _ _ _ _ _ _ W) HBw.out ?_
       intro u4 q1 q2 cP q3 HBu hch
       generalize wr.heap.size+1+1+1=B3 at q3 hch ⊢
       generalize wr.heap.size+1+1=BP at cP hch ⊢
       generalize wr.heap.size+1=B2 at q2 hch ⊢
       generalize wr.heap.size=B1 at q1 hch ⊢
     case' tab=>
      go_simp
      refine hK.out _ _ (kald hSn (by simp only[World.size_alloc];omega)) (fun hSn=>?_)
      clear hK K
      try simp only[zqd,zqe,zqf]
      refine call2L_at (i:=7) (j:=11) (by simp only[zqa,zqb,zqc];rfl) (by simp only[zqa,zqb,zqc];rfl) (by kernel_rfl) rfl rfl (fun K hK=>?taba) (fun K hK=>?tabb)
      case' taba=>
       go_simp
       refine hK.out _ _ (kald hSn (by simp only[World.size_alloc];omega)) (fun hSn=>?_)
       clear hK K
       try simp only[zqd,zqe,zqf]
       refine tla 10 43 ?_
       refine cl 11 7 fun K hK=>?_
       go_simp
       refine hK.out _ _ (kald hSn (by simp only[World.size_alloc];omega)) (fun hSn=>?_)
       clear hK K
       try simp only[zqd,zqe,zqf]
       refine name4 (C:=fun W=>wpAnyL _ _ _ _ _ _ _ _ _ W) HBw.out ?_
       intro u4 q1 q3 q2 cP HBu hch
       generalize wr.heap.size+1+1+1=BP at cP hch ⊢
       generalize wr.heap.size+1+1=B2 at q2 hch ⊢
       generalize wr.heap.size+1=B3 at q3 hch ⊢
       generalize wr.heap.size=B1 at q1 hch ⊢
      case' tabb=>
       go_simp
       refine hK.out _ _ (kald hSn (by simp only[World.size_alloc];omega)) (fun hSn=>?_)
       clear hK K
       try simp only[zqd,zqe,zqf]
       refine cl 7 40 fun K hK=>?_
       go_simp
       refine hK.out _ _ (kald hSn (by simp only[World.size_alloc];omega)) (fun hSn=>?_)
       clear hK K
       try simp only[zqd,zqe,zqf]
       refine tla 10 43 ?_
       refine name4 (C:=fun W=>wpAnyL _ _ _ _ _ _ _ _ _ W) HBw.out ?_
       intro u4 q1 q3 cP q2 HBu hch
       generalize wr.heap.size+1+1+1=B2 at q2 hch ⊢
       generalize wr.heap.size+1+1=BP at cP hch ⊢
       generalize wr.heap.size+1=B3 at q3 hch ⊢
       generalize wr.heap.size=B1 at q1 hch ⊢
     case' tac=>
      go_simp
      refine hK.out _ _ (kald hSn (by simp only[World.size_alloc];omega)) (fun hSn=>?_)
      clear hK K
      try simp only[zqd,zqe,zqf]
      refine call2L_at (i:=7) (j:=9) (by simp only[zqa,zqb,zqc];rfl) (by simp only[zqa,zqb,zqc];rfl) (by kernel_rfl) rfl rfl (fun K hK=>?taca) (fun K hK=>?tacb)
      case' taca=>
       go_simp
       refine hK.out _ _ (kald hSn (by simp only[World.size_alloc];omega)) (fun hSn=>?_)
       clear hK K
       try simp only[zqd,zqe,zqf]
       refine cl 9 42 fun K hK=>?_
       go_simp
       refine hK.out _ _ (kald hSn (by simp only[World.size_alloc];omega)) (fun hSn=>?_)
       clear hK K
       try simp only[zqd,zqe,zqf]
       refine tla 10 43 ?_
       refine name4 (C:=fun W=>wpAnyL _ _ _ _ _ _ _ _ _ W) HBw.out ?_
       intro u4 q1 cP q2 q3 HBu hch
       generalize wr.heap.size+1+1+1=B3 at q3 hch ⊢
       generalize wr.heap.size+1+1=B2 at q2 hch ⊢
       generalize wr.heap.size+1=BP at cP hch ⊢
       generalize wr.heap.size=B1 at q1 hch ⊢
      case' tacb=>
       go_simp
       refine hK.out _ _ (kald hSn (by simp only[World.size_alloc];omega)) (fun hSn=>?_)
       clear hK K
       try simp only[zqd,zqe,zqf]
       refine cl 7 40 fun K hK=>?_
       go_simp
       refine hK.out _ _ (kald hSn (by simp only[World.size_alloc];omega)) (fun hSn=>?_)
       clear hK K
       try simp only[zqd,zqe,zqf]
       refine tla 10 43 ?_
       refine name4 (C:=fun W=>wpAnyL _ _ _ _ _ _ _ _ _ W) HBw.out ?_
       intro u4 q1 cP q3 q2 HBu hch
       generalize wr.heap.size+1+1+1=B2 at q2 hch ⊢
       generalize wr.heap.size+1+1=B3 at q3 hch ⊢
       generalize wr.heap.size+1=BP at cP hch ⊢
       generalize wr.heap.size=B1 at q1 hch ⊢
    case' tb=>
     go_simp
     refine hK.out _ _ (kald hS0 (Nat.le_refl _)) (fun hSn=>?_)
     clear hK K
     try simp only[zqd,zqe,zqf]
     refine call3L_at (i0:=5) (i1:=9) (i2:=11) (by simp only[zqa,zqb,zqc];rfl) (by simp only[zqa,zqb,zqc];rfl) (by simp only[zqa,zqb,zqc];rfl) (by kernel_rfl) rfl rfl rfl (fun K hK=>?tba) (fun K hK=>?tbb) (fun K hK=>?tbc)
     case' tba=>
      go_simp
      refine hK.out _ _ (kald hSn (by simp only[World.size_alloc];omega)) (fun hSn=>?_)
      clear hK K
      try simp only[zqd,zqe,zqf]
      refine call2L_at (i:=9) (j:=11) (by simp only[zqa,zqb,zqc];rfl) (by simp only[zqa,zqb,zqc];rfl) (by kernel_rfl) rfl rfl (fun K hK=>?tbaa) (fun K hK=>?tbab)
      case' tbaa=>
       go_simp
       refine hK.out _ _ (kald hSn (by simp only[World.size_alloc];omega)) (fun hSn=>?_)
       clear hK K
       try simp only[zqd,zqe,zqf]
       refine tla 10 43 ?_
       refine cl 11 7 fun K hK=>?_
       go_simp
       refine hK.out _ _ (kald hSn (by simp only[World.size_alloc];omega)) (fun hSn=>?_)
       clear hK K
       try simp only[zqd,zqe,zqf]
       refine name4 (C:=fun W=>wpAnyL _ _ _ _ _ _ _ _ _ W) HBw.out ?_
       intro u4 q2 q1 q3 cP HBu hch
       generalize wr.heap.size+1+1+1=BP at cP hch ⊢
       generalize wr.heap.size+1+1=B3 at q3 hch ⊢
       generalize wr.heap.size+1=B1 at q1 hch ⊢
       generalize wr.heap.size=B2 at q2 hch ⊢
      case' tbab=>
       go_simp
       refine hK.out _ _ (kald hSn (by simp only[World.size_alloc];omega)) (fun hSn=>?_)
       clear hK K
       try simp only[zqd,zqe,zqf]
       refine cl 9 42 fun K hK=>?_
       go_simp
       refine hK.out _ _ (kald hSn (by simp only[World.size_alloc];omega)) (fun hSn=>?_)
       clear hK K
       try simp only[zqd,zqe,zqf]
       refine tla 10 43 ?_
       refine name4 (C:=fun W=>wpAnyL _ _ _ _ _ _ _ _ _ W) HBw.out ?_
       intro u4 q2 q1 cP q3 HBu hch
       generalize wr.heap.size+1+1+1=B3 at q3 hch ⊢
       generalize wr.heap.size+1+1=BP at cP hch ⊢
       generalize wr.heap.size+1=B1 at q1 hch ⊢
       generalize wr.heap.size=B2 at q2 hch ⊢
     case' tbb=>
      go_simp
      refine hK.out _ _ (kald hSn (by simp only[World.size_alloc];omega)) (fun hSn=>?_)
      clear hK K
      try simp only[zqd,zqe,zqf]
      refine call2L_at (i:=5) (j:=11) (by simp only[zqa,zqb,zqc];rfl) (by simp only[zqa,zqb,zqc];rfl) (by kernel_rfl) rfl rfl (fun K hK=>?tbba) (fun K hK=>?tbbb)
      case' tbba=>
       go_simp
       refine hK.out _ _ (kald hSn (by simp only[World.size_alloc];omega)) (fun hSn=>?_)
       clear hK K
       try simp only[zqd,zqe,zqf]
       refine tla 10 43 ?_
       refine cl 11 7 fun K hK=>?_
       go_simp
       refine hK.out _ _ (kald hSn (by simp only[World.size_alloc];omega)) (fun hSn=>?_)
       clear hK K
       try simp only[zqd,zqe,zqf]
       refine name4 (C:=fun W=>wpAnyL _ _ _ _ _ _ _ _ _ W) HBw.out ?_
       intro u4 q2 q3 q1 cP HBu hch
       generalize wr.heap.size+1+1+1=BP at cP hch ⊢
       generalize wr.heap.size+1+1=B1 at q1 hch ⊢
       generalize wr.heap.size+1=B3 at q3 hch ⊢
       generalize wr.heap.size=B2 at q2 hch ⊢
      case' tbbb=>
       go_simp
       refine hK.out _ _ (kald hSn (by simp only[World.size_alloc];omega)) (fun hSn=>?_)
       clear hK K
       try simp only[zqd,zqe,zqf]
       refine cl 5 38 fun K hK=>?_
       go_simp
       refine hK.out _ _ (kald hSn (by simp only[World.size_alloc];omega)) (fun hSn=>?_)
       clear hK K
       try simp only[zqd,zqe,zqf]
       refine tla 10 43 ?_
       refine name4 (C:=fun W=>wpAnyL _ _ _ _ _ _ _ _ _ W) HBw.out ?_
       intro u4 q2 q3 cP q1 HBu hch
       generalize wr.heap.size+1+1+1=B1 at q1 hch ⊢
       generalize wr.heap.size+1+1=BP at cP hch ⊢
       generalize wr.heap.size+1=B3 at q3 hch ⊢
       generalize wr.heap.size=B2 at q2 hch ⊢
     case' tbc=>
      go_simp
      refine hK.out _ _ (kald hSn (by simp only[World.size_alloc];omega)) (fun hSn=>?_)
      clear hK K
      try simp only[zqd,zqe,zqf]
      refine call2L_at (i:=5) (j:=9) (by simp only[zqa,zqb,zqc];rfl) (by simp only[zqa,zqb,zqc];rfl) (by kernel_rfl) rfl rfl (fun K hK=>?tbca) (fun K hK=>?tbcb)
      case' tbca=>
       go_simp
       refine hK.out _ _ (kald hSn (by simp only[World.size_alloc];omega)) (fun hSn=>?_)
       clear hK K
       try simp only[zqd,zqe,zqf]
       refine cl 9 42 fun K hK=>?_
       go_simp
       refine hK.out _ _ (kald hSn (by simp only[World.size_alloc];omega)) (fun hSn=>?_)
       clear hK K
       try simp only[zqd,zqe,zqf]
       refine tla 10 43 ?_
       refine name4 (C:=fun W=>wpAnyL _ _ _ _ _ _ _ _ _ W) HBw.out ?_
       intro u4 q2 cP q1 q3 HBu hch
       generalize wr.heap.size+1+1+1=B3 at q3 hch ⊢
       generalize wr.heap.size+1+1=B1 at q1 hch ⊢
       generalize wr.heap.size+1=BP at cP hch ⊢
       generalize wr.heap.size=B2 at q2 hch ⊢
      case' tbcb=>
       go_simp
       refine hK.out _ _ (kald hSn (by simp only[World.size_alloc];omega)) (fun hSn=>?_)
       clear hK K
       try simp only[zqd,zqe,zqf]
       refine cl 5 38 fun K hK=>?_
       go_simp
       refine hK.out _ _ (kald hSn (by simp only[World.size_alloc];omega)) (fun hSn=>?_)
       clear hK K
       try simp only[zqd,zqe,zqf]
       refine tla 10 43 ?_
       refine name4 (C:=fun W=>wpAnyL _ _ _ _ _ _ _ _ _ W) HBw.out ?_
       intro u4 q2 cP q3 q1 HBu hch
       generalize wr.heap.size+1+1+1=B1 at q1 hch ⊢
       generalize wr.heap.size+1+1=B3 at q3 hch ⊢
       generalize wr.heap.size+1=BP at cP hch ⊢
       generalize wr.heap.size=B2 at q2 hch ⊢
    case' tc=>
     go_simp
     refine hK.out _ _ (kald hS0 (Nat.le_refl _)) (fun hSn=>?_)
     clear hK K
     try simp only[zqd,zqe,zqf]
     refine call3L_at (i0:=5) (i1:=7) (i2:=11) (by simp only[zqa,zqb,zqc];rfl) (by simp only[zqa,zqb,zqc];rfl) (by simp only[zqa,zqb,zqc];rfl) (by kernel_rfl) rfl rfl rfl (fun K hK=>?tca) (fun K hK=>?tcb) (fun K hK=>?tcc)
     case' tca=>
      go_simp
      refine hK.out _ _ (kald hSn (by simp only[World.size_alloc];omega)) (fun hSn=>?_)
      clear hK K
      try simp only[zqd,zqe,zqf]
      refine call2L_at (i:=7) (j:=11) (by simp only[zqa,zqb,zqc];rfl) (by simp only[zqa,zqb,zqc];rfl) (by kernel_rfl) rfl rfl (fun K hK=>?tcaa) (fun K hK=>?tcab)
      case' tcaa=>
       go_simp
       refine hK.out _ _ (kald hSn (by simp only[World.size_alloc];omega)) (fun hSn=>?_)
       clear hK K
       try simp only[zqd,zqe,zqf]
       refine tla 10 43 ?_
       refine cl 11 7 fun K hK=>?_
       go_simp
       refine hK.out _ _ (kald hSn (by simp only[World.size_alloc];omega)) (fun hSn=>?_)
       clear hK K
       try simp only[zqd,zqe,zqf]
       refine name4 (C:=fun W=>wpAnyL _ _ _ _ _ _ _ _ _ W) HBw.out ?_
       intro u4 q3 q1 q2 cP HBu hch
       generalize wr.heap.size+1+1+1=BP at cP hch ⊢
       generalize wr.heap.size+1+1=B2 at q2 hch ⊢
       generalize wr.heap.size+1=B1 at q1 hch ⊢
       generalize wr.heap.size=B3 at q3 hch ⊢
      case' tcab=>
       go_simp
       refine hK.out _ _ (kald hSn (by simp only[World.size_alloc];omega)) (fun hSn=>?_)
       clear hK K
       try simp only[zqd,zqe,zqf]
       refine cl 7 40 fun K hK=>?_
       go_simp
       refine hK.out _ _ (kald hSn (by simp only[World.size_alloc];omega)) (fun hSn=>?_)
       clear hK K
       try simp only[zqd,zqe,zqf]
       refine tla 10 43 ?_
       refine name4 (C:=fun W=>wpAnyL _ _ _ _ _ _ _ _ _ W) HBw.out ?_
       intro u4 q3 q1 cP q2 HBu hch
       generalize wr.heap.size+1+1+1=B2 at q2 hch ⊢
       generalize wr.heap.size+1+1=BP at cP hch ⊢
       generalize wr.heap.size+1=B1 at q1 hch ⊢
       generalize wr.heap.size=B3 at q3 hch ⊢
     case' tcb=>
      go_simp
      refine hK.out _ _ (kald hSn (by simp only[World.size_alloc];omega)) (fun hSn=>?_)
      clear hK K
      try simp only[zqd,zqe,zqf]
      refine call2L_at (i:=5) (j:=11) (by simp only[zqa,zqb,zqc];rfl) (by simp only[zqa,zqb,zqc];rfl) (by kernel_rfl) rfl rfl (fun K hK=>?tcba) (fun K hK=>?tcbb)
      case' tcba=>
       go_simp
       refine hK.out _ _ (kald hSn (by simp only[World.size_alloc];omega)) (fun hSn=>?_)
       clear hK K
       try simp only[zqd,zqe,zqf]
       refine tla 10 43 ?_
       refine cl 11 7 fun K hK=>?_
       go_simp
       refine hK.out _ _ (kald hSn (by simp only[World.size_alloc];omega)) (fun hSn=>?_)
       clear hK K
       try simp only[zqd,zqe,zqf]
       refine name4 (C:=fun W=>wpAnyL _ _ _ _ _ _ _ _ _ W) HBw.out ?_
       intro u4 q3 q2 q1 cP HBu hch
       generalize wr.heap.size+1+1+1=BP at cP hch ⊢
       generalize wr.heap.size+1+1=B1 at q1 hch ⊢
       generalize wr.heap.size+1=B2 at q2 hch ⊢
       generalize wr.heap.size=B3 at q3 hch ⊢
      case' tcbb=>
       go_simp
       refine hK.out _ _ (kald hSn (by simp only[World.size_alloc];omega)) (fun hSn=>?_)
       clear hK K
       try simp only[zqd,zqe,zqf]
       refine cl 5 38 fun K hK=>?_
       go_simp
       refine hK.out _ _ (kald hSn (by simp only[World.size_alloc];omega)) (fun hSn=>?_)
       clear hK K
       try simp only[zqd,zqe,zqf]
       refine tla 10 43 ?_
       refine name4 (C:=fun W=>wpAnyL _ _ _ _ _ _ _ _ _ W) HBw.out ?_
       intro u4 q3 q2 cP q1 HBu hch
       generalize wr.heap.size+1+1+1=B1 at q1 hch ⊢
       generalize wr.heap.size+1+1=BP at cP hch ⊢
       generalize wr.heap.size+1=B2 at q2 hch ⊢
       generalize wr.heap.size=B3 at q3 hch ⊢
     case' tcc=>
      go_simp
      refine hK.out _ _ (kald hSn (by simp only[World.size_alloc];omega)) (fun hSn=>?_)
      clear hK K
      try simp only[zqd,zqe,zqf]
      refine call2L_at (i:=5) (j:=7) (by simp only[zqa,zqb,zqc];rfl) (by simp only[zqa,zqb,zqc];rfl) (by kernel_rfl) rfl rfl (fun K hK=>?tcca) (fun K hK=>?tccb)
      case' tcca=>
       go_simp
       refine hK.out _ _ (kald hSn (by simp only[World.size_alloc];omega)) (fun hSn=>?_)
       clear hK K
       try simp only[zqd,zqe,zqf]
       refine cl 7 40 fun K hK=>?_
       go_simp
       refine hK.out _ _ (kald hSn (by simp only[World.size_alloc];omega)) (fun hSn=>?_)
       clear hK K
       try simp only[zqd,zqe,zqf]
       refine tla 10 43 ?_
       refine name4 (C:=fun W=>wpAnyL _ _ _ _ _ _ _ _ _ W) HBw.out ?_
       intro u4 q3 cP q1 q2 HBu hch
       generalize wr.heap.size+1+1+1=B2 at q2 hch ⊢
       generalize wr.heap.size+1+1=B1 at q1 hch ⊢
       generalize wr.heap.size+1=BP at cP hch ⊢
       generalize wr.heap.size=B3 at q3 hch ⊢
      case' tccb=>
       go_simp
       refine hK.out _ _ (kald hSn (by simp only[World.size_alloc];omega)) (fun hSn=>?_)
       clear hK K
       try simp only[zqd,zqe,zqf]
       refine cl 5 38 fun K hK=>?_
       go_simp
       refine hK.out _ _ (kald hSn (by simp only[World.size_alloc];omega)) (fun hSn=>?_)
       clear hK K
       try simp only[zqd,zqe,zqf]
       refine tla 10 43 ?_
       refine name4 (C:=fun W=>wpAnyL _ _ _ _ _ _ _ _ _ W) HBw.out ?_
       intro u4 q3 cP q2 q1 HBu hch
       generalize wr.heap.size+1+1+1=B1 at q1 hch ⊢
       generalize wr.heap.size+1+1=B2 at q2 hch ⊢
       generalize wr.heap.size+1=BP at cP hch ⊢
       generalize wr.heap.size=B3 at q3 hch ⊢
    case' td=>
     go_simp
     refine hK.out _ _ (kald hS0 (Nat.le_refl _)) (fun hSn=>?_)
     clear hK K
     try simp only[zqd,zqe,zqf]
     refine call3L_at (i0:=5) (i1:=7) (i2:=9) (by simp only[zqa,zqb,zqc];rfl) (by simp only[zqa,zqb,zqc];rfl) (by simp only[zqa,zqb,zqc];rfl) (by kernel_rfl) rfl rfl rfl (fun K hK=>?tda) (fun K hK=>?tdb) (fun K hK=>?tdc)
     case' tda=>
      go_simp
      refine hK.out _ _ (kald hSn (by simp only[World.size_alloc];omega)) (fun hSn=>?_)
      clear hK K
      try simp only[zqd,zqe,zqf]
      refine call2L_at (i:=7) (j:=9) (by simp only[zqa,zqb,zqc];rfl) (by simp only[zqa,zqb,zqc];rfl) (by kernel_rfl) rfl rfl (fun K hK=>?tdaa) (fun K hK=>?tdab)
      case' tdaa=>
       go_simp
       refine hK.out _ _ (kald hSn (by simp only[World.size_alloc];omega)) (fun hSn=>?_)
       clear hK K
       try simp only[zqd,zqe,zqf]
       refine cl 9 42 fun K hK=>?_
       go_simp
       refine hK.out _ _ (kald hSn (by simp only[World.size_alloc];omega)) (fun hSn=>?_)
       clear hK K
       try simp only[zqd,zqe,zqf]
       refine tla 10 43 ?_
       refine name4 (C:=fun W=>wpAnyL _ _ _ _ _ _ _ _ _ W) HBw.out ?_
       intro u4 cP q1 q2 q3 HBu hch
       generalize wr.heap.size+1+1+1=B3 at q3 hch ⊢
       generalize wr.heap.size+1+1=B2 at q2 hch ⊢
       generalize wr.heap.size+1=B1 at q1 hch ⊢
       generalize wr.heap.size=BP at cP hch ⊢
      case' tdab=>
       go_simp
       refine hK.out _ _ (kald hSn (by simp only[World.size_alloc];omega)) (fun hSn=>?_)
       clear hK K
       try simp only[zqd,zqe,zqf]
       refine cl 7 40 fun K hK=>?_
       go_simp
       refine hK.out _ _ (kald hSn (by simp only[World.size_alloc];omega)) (fun hSn=>?_)
       clear hK K
       try simp only[zqd,zqe,zqf]
       refine tla 10 43 ?_
       refine name4 (C:=fun W=>wpAnyL _ _ _ _ _ _ _ _ _ W) HBw.out ?_
       intro u4 cP q1 q3 q2 HBu hch
       generalize wr.heap.size+1+1+1=B2 at q2 hch ⊢
       generalize wr.heap.size+1+1=B3 at q3 hch ⊢
       generalize wr.heap.size+1=B1 at q1 hch ⊢
       generalize wr.heap.size=BP at cP hch ⊢
     case' tdb=>
      go_simp
      refine hK.out _ _ (kald hSn (by simp only[World.size_alloc];omega)) (fun hSn=>?_)
      clear hK K
      try simp only[zqd,zqe,zqf]
      refine call2L_at (i:=5) (j:=9) (by simp only[zqa,zqb,zqc];rfl) (by simp only[zqa,zqb,zqc];rfl) (by kernel_rfl) rfl rfl (fun K hK=>?tdba) (fun K hK=>?tdbb)
      case' tdba=>
       go_simp
       refine hK.out _ _ (kald hSn (by simp only[World.size_alloc];omega)) (fun hSn=>?_)
       clear hK K
       try simp only[zqd,zqe,zqf]
       refine cl 9 42 fun K hK=>?_
       go_simp
       refine hK.out _ _ (kald hSn (by simp only[World.size_alloc];omega)) (fun hSn=>?_)
       clear hK K
       try simp only[zqd,zqe,zqf]
       refine tla 10 43 ?_
       refine name4 (C:=fun W=>wpAnyL _ _ _ _ _ _ _ _ _ W) HBw.out ?_
       intro u4 cP q2 q1 q3 HBu hch
       generalize wr.heap.size+1+1+1=B3 at q3 hch ⊢
       generalize wr.heap.size+1+1=B1 at q1 hch ⊢
       generalize wr.heap.size+1=B2 at q2 hch ⊢
       generalize wr.heap.size=BP at cP hch ⊢
      case' tdbb=>
       go_simp
       refine hK.out _ _ (kald hSn (by simp only[World.size_alloc];omega)) (fun hSn=>?_)
       clear hK K
       try simp only[zqd,zqe,zqf]
       refine cl 5 38 fun K hK=>?_
       go_simp
       refine hK.out _ _ (kald hSn (by simp only[World.size_alloc];omega)) (fun hSn=>?_)
       clear hK K
       try simp only[zqd,zqe,zqf]
       refine tla 10 43 ?_
       refine name4 (C:=fun W=>wpAnyL _ _ _ _ _ _ _ _ _ W) HBw.out ?_
       intro u4 cP q2 q3 q1 HBu hch
       generalize wr.heap.size+1+1+1=B1 at q1 hch ⊢
       generalize wr.heap.size+1+1=B3 at q3 hch ⊢
       generalize wr.heap.size+1=B2 at q2 hch ⊢
       generalize wr.heap.size=BP at cP hch ⊢
     case' tdc=>
      go_simp
      refine hK.out _ _ (kald hSn (by simp only[World.size_alloc];omega)) (fun hSn=>?_)
      clear hK K
      try simp only[zqd,zqe,zqf]
      refine call2L_at (i:=5) (j:=7) (by simp only[zqa,zqb,zqc];rfl) (by simp only[zqa,zqb,zqc];rfl) (by kernel_rfl) rfl rfl (fun K hK=>?tdca) (fun K hK=>?tdcb)
      case' tdca=>
       go_simp
       refine hK.out _ _ (kald hSn (by simp only[World.size_alloc];omega)) (fun hSn=>?_)
       clear hK K
       try simp only[zqd,zqe,zqf]
       refine cl 7 40 fun K hK=>?_
       go_simp
       refine hK.out _ _ (kald hSn (by simp only[World.size_alloc];omega)) (fun hSn=>?_)
       clear hK K
       try simp only[zqd,zqe,zqf]
       refine tla 10 43 ?_
       refine name4 (C:=fun W=>wpAnyL _ _ _ _ _ _ _ _ _ W) HBw.out ?_
       intro u4 cP q3 q1 q2 HBu hch
       generalize wr.heap.size+1+1+1=B2 at q2 hch ⊢
       generalize wr.heap.size+1+1=B1 at q1 hch ⊢
       generalize wr.heap.size+1=B3 at q3 hch ⊢
       generalize wr.heap.size=BP at cP hch ⊢
      case' tdcb=>
       go_simp
       refine hK.out _ _ (kald hSn (by simp only[World.size_alloc];omega)) (fun hSn=>?_)
       clear hK K
       try simp only[zqd,zqe,zqf]
       refine cl 5 38 fun K hK=>?_
       go_simp
       refine hK.out _ _ (kald hSn (by simp only[World.size_alloc];omega)) (fun hSn=>?_)
       clear hK K
       try simp only[zqd,zqe,zqf]
       refine tla 10 43 ?_
       refine name4 (C:=fun W=>wpAnyL _ _ _ _ _ _ _ _ _ W) HBw.out ?_
       intro u4 cP q3 q2 q1 HBu hch
       generalize wr.heap.size+1+1+1=B1 at q1 hch ⊢
       generalize wr.heap.size+1+1=B2 at q2 hch ⊢
       generalize wr.heap.size+1=B3 at q3 hch ⊢
       generalize wr.heap.size=BP at cP hch ⊢
    all_goals
     refine xl 12 fun K hK=>?_
     obtain⟨cp0,cp1,cp2,cp3,cp4,cp5⟩:=zr6 cP
     have zq:=zf cP;have cf0:=zq 0;have cf1:=zq 1;have cf2:=zq 2;have cf3:=zq 3;have cf4:=zq 4;have cf5:=zq 5;clear zq
     have CP:=hide cP
     have Q1:=hide q1
     have Q2:=hide q2
     have Q3:=hide q3
     have HLO:Hid (v0.heap.size≤BP∧v0.heap.size≤B1∧v0.heap.size≤B2∧v0.heap.size≤B3):=hide (by omega)
     have HNE:Hid (BP≠B1∧BP≠B2∧BP≠B3∧B1≠B2∧B1≠B3∧B2≠B3):=hide (by omega)
     have hPl:=lt_of_block cP
     clear cP q1 q2 q3 hch
     go_wp2_with fail
     refine hK.out _ _ ?_
     clear hK K
     try simp only[zqd,zqe,zqf]
     refine wpAnyL_done (by kernel_rfl) ?_ _
     have HFin:=hide (show JMid w v0 st n (.pointer (some ⟨BP,0,none⟩)) ((((((u4.setCell ⟨BP,0,none⟩ (.int .i64 st)).setCell ⟨BP,1,none⟩ (.slice (some ⟨B1,0,none⟩) n n)).setCell ⟨BP,2,none⟩ (.slice (some ⟨B2,0,none⟩) n n)).setCell ⟨BP,3,none⟩ (.slice (some ⟨B3,0,none⟩) n n)).setCell ⟨BP,4,none⟩ (.int .i64 0)).setCell ⟨BP,5,none⟩ (.int .i64 0)) from ⟨BP,B1,B2,B3,rfl,js_six HLO.out HNE.out _ _ _ rfl rfl rfl CP.out Q1.out Q2.out Q3.out HBu.out⟩)
     go_wp2
     go_meet
     case rel=>exact HFin
  case rest=>
   obtain⟨P,B1,B2,B3,rfl,hJ⟩:=hcut.out
   have HJ0:Hid (JS v0 st n P B1 B2 B3 (fillL (jV ps) 0 (dnW L 0) n) (fillL (jC ps) false (dnW L 0) n) (fillL (jM ps) (false,0) (dnW L 0) n) wc):=hide (by rw[fill_none _ _ _ n (fun u _=>dnW_zero _ u),fill_none _ _ _ n (fun u _=>dnW_zero _ u),fill_none _ _ _ n (fun u _=>dnW_zero _ u)];exact hJ)
   clear hJ hcut hmk1 hmk2 hmk3 c0 hlb hbl HBw hvw a1i a1z a1s a1b a2i a2z a2s a2b a3i a3z a3s a3b
   go_wp2
   go_loopw [46] (fun v46 wr=>∃i:Nat,i≤L∧v46 = .int .i64 (i:Int)∧Hid (∀(q:Nat) (p:SPart),q<i→ps[q]?=some p→fitJ ps q p=true)∧Hid (JS v0 st n P B1 B2 B3 (fillL (jV ps) 0 (dnW L i) n) (fillL (jC ps) false (dnW L i) n) (fillL (jM ps) (false,0) (dnW L i) n) wr)) (fun v46 _=>L-(intOf v46).toNat)
   case atStart=>exact⟨0,by omega,rfl,hide (fun q p h=>absurd h (by omega)),HJ0⟩
   case round=>
    clear HJ0
    obtain⟨i,hi,rfl,hfit,hJ⟩:=hrel
    have srw:v0.heap.size≤wr.heap.size:=hJ.out.hb.size
    by_cases hlt:i<L
    ·have hI1:(i:Int)<(L:Int):=by omega
     obtain⟨p,hp⟩:∃p,ps[i]?=some p:=⟨_,List.getElem?_eq_getElem (by rw[HL.out];omega)⟩
     obtain⟨b9,off9,hbe,hbl,Ao,Av,Ac,Ai,no,nv,nc,ni,co,cv,cc,ci,d0,d1,d2,d3,d4,hlen,hin,hbd⟩:=HP.out.get hp
     injection hbe with hbe
     injection hbe with hb1 hb2
     subst hb1 hb2
     have HLen:=hide hlen
     have HIn:=hide hin
     have hno:no≤60:=by have:=H60.out p (List.mem_of_getElem? hp);rw[HLen.out.1] at this;exact this
     have hpl:=hide hp
     have HBD:=hide hbd
     have e0:wr.cell? ⟨b,off+i*5,none⟩=some (.int .i64 p.step):=(hJ.out.hb.cell (p:=⟨b,off+i*5,none⟩) hbl).trans d0
     have e1:wr.cell? ⟨b,off+i*5+1,none⟩=some (.slice Ao no co):=(hJ.out.hb.cell (p:=⟨b,off+i*5+1,none⟩) hbl).trans d1
     have e2:wr.cell? ⟨b,off+i*5+2,none⟩=some (.slice Av nv cv):=(hJ.out.hb.cell (p:=⟨b,off+i*5+2,none⟩) hbl).trans d2
     have e3:wr.cell? ⟨b,off+i*5+3,none⟩=some (.slice Ac nc cc):=(hJ.out.hb.cell (p:=⟨b,off+i*5+3,none⟩) hbl).trans d3
     have e4:wr.cell? ⟨b,off+i*5+4,none⟩=some (.slice Ai ni ci):=(hJ.out.hb.cell (p:=⟨b,off+i*5+4,none⟩) hbl).trans d4
     have hlb:b<wr.heap.size:=by omega
     obtain⟨ws,hws⟩:∃z,wr.alloc (.cells #[.int .i64 p.step,.slice Ao no co,.slice Av nv cv,.slice Ac nc cc,.slice Ai ni ci] 42)=z:=⟨_,rfl⟩
     have HT:Hid (ws.heap[wr.heap.size]?=some (.cells #[.int .i64 p.step,.slice Ao no co,.slice Av nv cv,.slice Ac nc cc,.slice Ai ni ci] 42)):=hide (by rw[←hws];exact heap_alloc_last _ _)
     have HJs:Hid (JS v0 st n P B1 B2 B3 (fillL (jV ps) 0 (dnW L i) n) (fillL (jC ps) false (dnW L i) n) (fillL (jM ps) (false,0) (dnW L i) n) ws):=hide (by rw[←hws];exact hJ.out.alloc _)
     have hszs:ws.heap.size=wr.heap.size+1:=by rw[←hws];simp
     have HWS:=hide hws
     have hPT:=hJ.out.lts
     clear d0 d1 d2 d3 d4 hlen hin hbd hp hws
     go_upto_region 14 with fail
     rw[HWS.out]
     obtain⟨T,hT⟩:∃T,wr.heap.size=T:=⟨_,rfl⟩
     rw[hT] at HT hPT hszs srw ⊢
     clear e0 e1 e2 e3 e4 hlb HWS hJ
     have HTe:=hide hT
     clear hT
     obtain⟨ht0,ht1,ht2,ht3⟩:=hPT
     have hTs:T<ws.heap.size:=by omega
     have hPs:P<ws.heap.size:=by omega
     obtain⟨x0,x1,x2,x3,x4⟩:=zr5 HT.out
     have y0:ws.cell? ⟨P,0,none⟩=some (.int .i64 st):=cell_of_row _ _ 0 _ _ _ HJs.out.hP
     have hsz:v0.heap.size≤ws.heap.size:=HJs.out.hb.size
     have HKv:Hid (Kept v0 ws):=hide HJs.out.keep
     have HZs:Hid (ws.heap[w.heap.size]?=some (.cells #[.int .i64 0,.slice none 0 0,.slice none 0 0,.slice none 0 0,.int .i64 0,.int .i64 0] 33)):=hide ((HJs.out.hb.block _ (by omega)).trans M0.out)
     have HBs:Hid (Below w.heap.size w ws):=hide (HB0.out.trans (HJs.out.hb.mono (by omega)))
     rcases hr:rightB p with _ | _
     ·as_aux_lemma=>
       have HR:=hide hr
       have HN:Hid (¬okJ ps):=hide (fun h=>by have h1:=fit_iff.1 (h.2.2.2 i p hpl.out);rw[HR.out] at h1;cases h1.1)
       clear hr
       refine wp_region_held_drew (S:=Kept ws) (by kernel_rfl) (Kept.drew ws) (fun hS0=>?_)
       refine tka 0 53 ?_
       refine ck 1 54 fun K hK=>?_
       go_simp
       have hcl:=right_any ws.drew p Ao Av Ac Ai no nv nc ni co cv cc ci HLen.out HBD.out.1 (HIn.out.kept (fun q hq=>HKv.out q hq) hsz)
       rw[HR.out] at hcl
       refine hcl.mono ?_
       clear hcl
       rintro e z1 ⟨rfl,hz⟩
       have hS1:Kept ws z1:=hS0.below (Nat.le_refl _) hz
       have hz1:ws.heap.size≤z1.heap.size:=hz.size
       have Z1:=hide ((Below.refl ws.heap.size ws).drew.trans (hz.mono (Nat.le_refl _)))
       clear hz
       go_wp2_with fail
       refine hK.out _ _ hS1 (fun hSn=>?_)
       clear hK K
       try simp only[zqd,zqe,zqf]
       refine tka 2 55 ?_
       refine tka 3 56 ?_
       refine ska 4 57 ?_
       refine ska 5 58 ?_
       refine ska 6 59 ?_
       refine ska 7 60 ?_
       refine ska 8 61 ?_
       refine tka 9 62 ?_
       refine tka 10 63 ?_
       refine ska 11 64 ?_
       refine ska 12 65 ?_
       refine tka 13 66 ?_
       refine tka 14 67 ?_
       refine ska 15 68 ?_
       refine ska 16 69 ?_
       refine ska 17 70 ?_
       refine ska 18 71 ?_
       refine ska 19 72 ?_
       refine ska 20 73 ?_
       refine ska 21 74 ?_
       refine ska 22 75 ?_
       refine ska 23 76 ?_
       refine tka 24 77 ?_
       refine wpAnyH_done (by kernel_rfl) ?_ _
       clear hS0 hS1 hSn
       clear x0 x1 x2 x3 x4 y0
       have ZW:=hide ((Z1.out.block _ (by omega)).trans HZs.out)
       have HBf:=hide (HBs.out.trans (Z1.out.mono (by omega)))
       obtain⟨zc0,zc1,zc2,zc3,zc4,zc5⟩:=zr6 ZW.out
       have zq:=zf ZW.out;have zcf0:=zq 0;have zcf1:=zq 1;have zcf2:=zq 2;have zcf3:=zq 3;have zcf4:=zq 4;have zcf5:=zq 5;clear zq
       have HFin:=hide (six_fin (.int .i64 0) (.slice none 0 0) (.slice none 0 0) (.slice none 0 0) (.int .i64 0) (.int .i64 0) (.int .i64 0) (.slice none 0 0) (.slice none 0 0) (.slice none 0 0) (.int .i64 0) (.int .i64 0) (Nat.le_refl w.heap.size) ZW.out HBf.out)
       go_wp2
       obtain⟨f,hf,hfB,h6,hfs,hfo⟩:=HFin.out
       rw[hf]
       obtain⟨y0,y1,y2,y3,y4,y5⟩:=zr6 h6
       exact bodyPost_ret (v:=.tuple #[.agg #[.int .i64 0,.slice none 0 0,.slice none 0 0,.slice none 0 0,.int .i64 0,.int .i64 0],.int .i64 4]) (by simp[results,Tryz.results20,go_sem,y0,y1,y2,y3,y4,y5]) rfl (.inr ⟨HN.out,rfl,hfB⟩)
     have HR:=hide hr
     clear hr
     by_cases hse:p.step=st
     rotate_left
     ·as_aux_lemma=>
       have hse1:(p.step == st)=false:=by simpa using hse
       have hse2:(p.step != st)=true:=by simpa using hse
       have HN:Hid (¬okJ ps):=hide (fun h=>by have h1:=fit_iff.1 (h.2.2.2 i p hpl.out);rw[HSt.out] at h1;exact hse h1.2.1)
       clear hse
       refine wp_region_held_drew (S:=Kept ws) (by kernel_rfl) (Kept.drew ws) (fun hS0=>?_)
       refine tka 0 53 ?_
       refine ck 1 54 fun K hK=>?_
       go_simp
       have hcl:=right_any ws.drew p Ao Av Ac Ai no nv nc ni co cv cc ci HLen.out HBD.out.1 (HIn.out.kept (fun q hq=>HKv.out q hq) hsz)
       rw[HR.out] at hcl
       refine hcl.mono ?_
       clear hcl
       rintro e z1 ⟨rfl,hz⟩
       have hS1:Kept ws z1:=hS0.below (Nat.le_refl _) hz
       have hz1:ws.heap.size≤z1.heap.size:=hz.size
       have Z1:=hide ((Below.refl ws.heap.size ws).drew.trans (hz.mono (Nat.le_refl _)))
       clear hz
       go_wp2_with fail
       refine hK.out _ _ hS1 (fun hSn=>?_)
       clear hK K
       try simp only[zqd,zqe,zqf]
       refine tka 2 55 ?_
       refine tka 3 56 ?_
       refine tka 4 57 ?_
       refine tka 5 58 ?_
       refine tka 6 59 ?_
       refine tka 7 60 ?_
       refine tka 8 61 ?_
       refine tka 9 62 ?_
       refine tka 10 63 ?_
       refine ska 11 64 ?_
       refine ska 12 65 ?_
       refine tka 13 66 ?_
       refine tka 14 67 ?_
       refine ska 15 68 ?_
       refine ska 16 69 ?_
       refine ska 17 70 ?_
       refine ska 18 71 ?_
       refine ska 19 72 ?_
       refine ska 20 73 ?_
       refine ska 21 74 ?_
       refine ska 22 75 ?_
       refine ska 23 76 ?_
       refine tka 24 77 ?_
       refine wpAnyH_done (by kernel_rfl) ?_ _
       clear hS0 hS1 hSn
       clear x0 x1 x2 x3 x4 y0
       have ZW:=hide ((Z1.out.block _ (by omega)).trans HZs.out)
       have HBf:=hide (HBs.out.trans (Z1.out.mono (by omega)))
       obtain⟨zc0,zc1,zc2,zc3,zc4,zc5⟩:=zr6 ZW.out
       have zq:=zf ZW.out;have zcf0:=zq 0;have zcf1:=zq 1;have zcf2:=zq 2;have zcf3:=zq 3;have zcf4:=zq 4;have zcf5:=zq 5;clear zq
       have HFin:=hide (six_fin (.int .i64 0) (.slice none 0 0) (.slice none 0 0) (.slice none 0 0) (.int .i64 0) (.int .i64 0) (.int .i64 0) (.slice none 0 0) (.slice none 0 0) (.slice none 0 0) (.int .i64 0) (.int .i64 0) (Nat.le_refl w.heap.size) ZW.out HBf.out)
       go_wp2
       obtain⟨f,hf,hfB,h6,hfs,hfo⟩:=HFin.out
       rw[hf]
       obtain⟨y0,y1,y2,y3,y4,y5⟩:=zr6 h6
       exact bodyPost_ret (v:=.tuple #[.agg #[.int .i64 0,.slice none 0 0,.slice none 0 0,.slice none 0 0,.int .i64 0,.int .i64 0],.int .i64 4]) (by simp[results,Tryz.results20,go_sem,y0,y1,y2,y3,y4,y5]) rfl (.inr ⟨HN.out,rfl,hfB⟩)
     have hse1:(p.step == st)=true:=by simpa using hse
     have hse2:(p.step != st)=false:=by simpa using hse
     have HSE:=hide hse
     clear hse
     by_cases hn5:512<n
     ·as_aux_lemma=>
       have hnI:(512:Int)<(n:Int):=by omega
       have HN:Hid (¬okJ ps):=hide (fun h=>by have h1:=fit_iff.1 (h.2.2.2 i p hpl.out);rw[HN0.out] at h1;omega)
       refine wp_region_held_drew (S:=Kept ws) (by kernel_rfl) (Kept.drew ws) (fun hS0=>?_)
       refine tka 0 53 ?_
       refine ck 1 54 fun K hK=>?_
       go_simp
       have hcl:=right_any ws.drew p Ao Av Ac Ai no nv nc ni co cv cc ci HLen.out HBD.out.1 (HIn.out.kept (fun q hq=>HKv.out q hq) hsz)
       rw[HR.out] at hcl
       refine hcl.mono ?_
       clear hcl
       rintro e z1 ⟨rfl,hz⟩
       have hS1:Kept ws z1:=hS0.below (Nat.le_refl _) hz
       have hz1:ws.heap.size≤z1.heap.size:=hz.size
       have Z1:=hide ((Below.refl ws.heap.size ws).drew.trans (hz.mono (Nat.le_refl _)))
       clear hz
       go_wp2_with fail
       refine hK.out _ _ hS1 (fun hSn=>?_)
       clear hK K
       try simp only[zqd,zqe,zqf]
       refine tka 2 55 ?_
       refine tka 3 56 ?_
       refine tka 4 57 ?_
       refine tka 5 58 ?_
       refine tka 6 59 ?_
       refine tka 7 60 ?_
       refine tka 8 61 ?_
       refine tka 9 62 ?_
       refine tka 10 63 ?_
       refine tka 11 64 ?_
       refine tka 12 65 ?_
       refine tka 13 66 ?_
       refine tka 14 67 ?_
       refine ska 15 68 ?_
       refine ska 16 69 ?_
       refine ska 17 70 ?_
       refine ska 18 71 ?_
       refine ska 19 72 ?_
       refine ska 20 73 ?_
       refine ska 21 74 ?_
       refine ska 22 75 ?_
       refine ska 23 76 ?_
       refine tka 24 77 ?_
       refine wpAnyH_done (by kernel_rfl) ?_ _
       clear hS0 hS1 hSn
       clear x0 x1 x2 x3 x4 y0
       have ZW:=hide ((Z1.out.block _ (by omega)).trans HZs.out)
       have HBf:=hide (HBs.out.trans (Z1.out.mono (by omega)))
       obtain⟨zc0,zc1,zc2,zc3,zc4,zc5⟩:=zr6 ZW.out
       have zq:=zf ZW.out;have zcf0:=zq 0;have zcf1:=zq 1;have zcf2:=zq 2;have zcf3:=zq 3;have zcf4:=zq 4;have zcf5:=zq 5;clear zq
       have HFin:=hide (six_fin (.int .i64 0) (.slice none 0 0) (.slice none 0 0) (.slice none 0 0) (.int .i64 0) (.int .i64 0) (.int .i64 0) (.slice none 0 0) (.slice none 0 0) (.slice none 0 0) (.int .i64 0) (.int .i64 0) (Nat.le_refl w.heap.size) ZW.out HBf.out)
       go_wp2
       obtain⟨f,hf,hfB,h6,hfs,hfo⟩:=HFin.out
       rw[hf]
       obtain⟨y0,y1,y2,y3,y4,y5⟩:=zr6 h6
       exact bodyPost_ret (v:=.tuple #[.agg #[.int .i64 0,.slice none 0 0,.slice none 0 0,.slice none 0 0,.int .i64 0,.int .i64 0],.int .i64 4]) (by simp[results,Tryz.results20,go_sem,y0,y1,y2,y3,y4,y5]) rfl (.inr ⟨HN.out,rfl,hfB⟩)
     have hnI:¬(512:Int)<(n:Int):=by omega
     have hnd:decide ((512:Int)<(n:Int))=false:=decide_eq_false hnI
     have hnN:n≤512:=by omega
     have hnN2:¬512<n:=by omega
     rcases he:eqL p.own (ownUpto (L:Int) (i:Int) n) with _ | _
     ·as_aux_lemma=>
       have HE:=hide he
       have HN:Hid (¬okJ ps):=hide (fun h=>by have h1:=fit_iff.1 (h.2.2.2 i p hpl.out);rw[HN0.out,HL.out] at h1;have h2:=HE.out;rw[h1.2.2.2,eqL_self] at h2;cases h2)
       clear he
       refine wp_region_held_drew (S:=Kept ws) (by kernel_rfl) (Kept.drew ws) (fun hS0=>?_)
       refine tka 0 53 ?_
       refine ck 1 54 fun K hK=>?_
       go_simp
       have hcl:=right_any ws.drew p Ao Av Ac Ai no nv nc ni co cv cc ci HLen.out HBD.out.1 (HIn.out.kept (fun q hq=>HKv.out q hq) hsz)
       rw[HR.out] at hcl
       refine hcl.mono ?_
       clear hcl
       rintro e z1 ⟨rfl,hz⟩
       have hS1:Kept ws z1:=hS0.below (Nat.le_refl _) hz
       have hz1:ws.heap.size≤z1.heap.size:=hz.size
       have Z1:=hide ((Below.refl ws.heap.size ws).drew.trans (hz.mono (Nat.le_refl _)))
       clear hz
       go_wp2_with fail
       refine hK.out _ _ hS1 (fun hSn=>?_)
       clear hK K
       try simp only[zqd,zqe,zqf]
       refine tka 2 55 ?_
       refine tka 3 56 ?_
       refine tka 4 57 ?_
       refine tka 5 58 ?_
       refine tka 6 59 ?_
       refine tka 7 60 ?_
       refine tka 8 61 ?_
       refine tka 9 62 ?_
       refine tka 10 63 ?_
       refine tka 11 64 ?_
       refine tka 12 65 ?_
       refine tka 13 66 ?_
       refine tka 14 67 ?_
       refine tka 15 68 ?_
       refine tka 16 69 ?_
       refine tka 17 70 ?_
       refine tka 18 71 ?_
       refine tka 19 72 ?_
       refine tka 20 73 ?_
       refine ck 21 74 fun K hK=>?_
       go_simp
       have hcl:=owned_any z1 (n:Int) (L:Int) (i:Int)
       rw[owned_upto_ n (L:Int) (i:Int) (by omega)] at hcl
       refine hcl.mono ?_
       clear hcl
       rintro e z2 ⟨A9,c9,rfl,ho,hz⟩
       obtain⟨q9,hq9⟩:∃q,(ownUpto (L:Int) (i:Int) n).length=q:=⟨_,rfl⟩
       rw[hq9] at ho ⊢
       have HQ9:=hide hq9
       have HO9:=hide (Rd.of_own ho)
       have hS2:Kept ws z2:=hS1.below hz1 hz
       have hz2:ws.heap.size≤z2.heap.size:=Nat.le_trans hz1 hz.size
       have Z2:=hide (Z1.out.trans (hz.mono hz1))
       clear hz ho hq9
       go_wp2_with fail
       refine hK.out _ _ hS2 (fun hSn=>?_)
       clear hK K
       try simp only[zqd,zqe,zqf]
       refine ck 22 75 fun K hK=>?_
       go_simp
       have hcl:=equalI_any z2 Ao A9 p.own (ownUpto (L:Int) (i:Int) n) no q9 co c9 HLen.out.1 HQ9.out HBD.out.1 (HIn.out.kept (fun q hq=>(hS2 q (Nat.lt_of_lt_of_le hq hsz)).trans (HKv.out q hq)) (Nat.le_trans hsz hz2)).own HO9.out
       rw[HE.out] at hcl
       refine hcl.mono ?_
       clear hcl
       rintro e z3 ⟨rfl,hz⟩
       have hS3:Kept ws z3:=hS2.below hz2 hz
       have hz3:ws.heap.size≤z3.heap.size:=Nat.le_trans hz2 hz.size
       have Z3:=hide (Z2.out.trans (hz.mono hz2))
       clear hz
       go_wp2_with fail
       refine hK.out _ _ hS3 (fun hSn=>?_)
       clear hK K
       try simp only[zqd,zqe,zqf]
       refine tka 23 76 ?_
       refine tka 24 77 ?_
       refine wpAnyH_done (by kernel_rfl) ?_ _
       clear hS0 hS1 hS2 hS3 hSn
       clear x0 x1 x2 x3 x4 y0
       have ZW:=hide ((Z3.out.block _ (by omega)).trans HZs.out)
       have HBf:=hide (HBs.out.trans (Z3.out.mono (by omega)))
       obtain⟨zc0,zc1,zc2,zc3,zc4,zc5⟩:=zr6 ZW.out
       have zq:=zf ZW.out;have zcf0:=zq 0;have zcf1:=zq 1;have zcf2:=zq 2;have zcf3:=zq 3;have zcf4:=zq 4;have zcf5:=zq 5;clear zq
       have HFin:=hide (six_fin (.int .i64 0) (.slice none 0 0) (.slice none 0 0) (.slice none 0 0) (.int .i64 0) (.int .i64 0) (.int .i64 0) (.slice none 0 0) (.slice none 0 0) (.slice none 0 0) (.int .i64 0) (.int .i64 0) (Nat.le_refl w.heap.size) ZW.out HBf.out)
       go_wp2
       obtain⟨f,hf,hfB,h6,hfs,hfo⟩:=HFin.out
       rw[hf]
       obtain⟨y0,y1,y2,y3,y4,y5⟩:=zr6 h6
       exact bodyPost_ret (v:=.tuple #[.agg #[.int .i64 0,.slice none 0 0,.slice none 0 0,.slice none 0 0,.int .i64 0,.int .i64 0],.int .i64 4]) (by simp[results,Tryz.results20,go_sem,y0,y1,y2,y3,y4,y5]) rfl (.inr ⟨HN.out,rfl,hfB⟩)
     have HE:=hide he
     have HOwn:Hid (p.own=ownUpto (L:Int) (i:Int) n):=hide (eqL_true.1 he)
     clear he
     have HFi:Hid (fitJ ps i p=true):=hide (fit_iff.2 ⟨HR.out,by rw[HSt.out];exact HSE.out,by rw[HN0.out];omega,by rw[HN0.out,HL.out];exact HOwn.out⟩)
     refine wp_region_held_drew (S:=Kept ws) (by kernel_rfl) (Kept.drew ws) (fun hS0=>?_)
     refine tka 0 53 ?_
     refine ck 1 54 fun K hK=>?_
     go_simp
     have hcl:=right_any ws.drew p Ao Av Ac Ai no nv nc ni co cv cc ci HLen.out HBD.out.1 (HIn.out.kept (fun q hq=>HKv.out q hq) hsz)
     rw[HR.out] at hcl
     refine hcl.mono ?_
     clear hcl
     rintro e z1 ⟨rfl,hz⟩
     have hS1:Kept ws z1:=hS0.below (Nat.le_refl _) hz
     have hz1:ws.heap.size≤z1.heap.size:=hz.size
     have Z1:=hide ((Below.refl ws.heap.size ws).drew.trans (hz.mono (Nat.le_refl _)))
     clear hz
     go_wp2_with fail
     refine hK.out _ _ hS1 (fun hSn=>?_)
     clear hK K
     try simp only[zqd,zqe,zqf]
     refine tka 2 55 ?_
     refine tka 3 56 ?_
     refine tka 4 57 ?_
     refine tka 5 58 ?_
     refine tka 6 59 ?_
     refine tka 7 60 ?_
     refine tka 8 61 ?_
     refine tka 9 62 ?_
     refine tka 10 63 ?_
     refine tka 11 64 ?_
     refine tka 12 65 ?_
     refine tka 13 66 ?_
     refine tka 14 67 ?_
     refine tka 15 68 ?_
     refine tka 16 69 ?_
     refine tka 17 70 ?_
     refine tka 18 71 ?_
     refine tka 19 72 ?_
     refine tka 20 73 ?_
     refine ck 21 74 fun K hK=>?_
     go_simp
     have hcl:=owned_any z1 (n:Int) (L:Int) (i:Int)
     rw[owned_upto_ n (L:Int) (i:Int) (by omega)] at hcl
     refine hcl.mono ?_
     clear hcl
     rintro e z2 ⟨A9,c9,rfl,ho,hz⟩
     obtain⟨q9,hq9⟩:∃q,(ownUpto (L:Int) (i:Int) n).length=q:=⟨_,rfl⟩
     rw[hq9] at ho ⊢
     have HQ9:=hide hq9
     have HO9:=hide (Rd.of_own ho)
     have hS2:Kept ws z2:=hS1.below hz1 hz
     have hz2:ws.heap.size≤z2.heap.size:=Nat.le_trans hz1 hz.size
     have Z2:=hide (Z1.out.trans (hz.mono hz1))
     clear hz ho hq9
     go_wp2_with fail
     refine hK.out _ _ hS2 (fun hSn=>?_)
     clear hK K
     try simp only[zqd,zqe,zqf]
     refine ck 22 75 fun K hK=>?_
     go_simp
     have hcl:=equalI_any z2 Ao A9 p.own (ownUpto (L:Int) (i:Int) n) no q9 co c9 HLen.out.1 HQ9.out HBD.out.1 (HIn.out.kept (fun q hq=>(hS2 q (Nat.lt_of_lt_of_le hq hsz)).trans (HKv.out q hq)) (Nat.le_trans hsz hz2)).own HO9.out
     rw[HE.out] at hcl
     refine hcl.mono ?_
     clear hcl
     rintro e z3 ⟨rfl,hz⟩
     have hS3:Kept ws z3:=hS2.below hz2 hz
     have hz3:ws.heap.size≤z3.heap.size:=Nat.le_trans hz2 hz.size
     have Z3:=hide (Z2.out.trans (hz.mono hz2))
     clear hz
     go_wp2_with fail
     refine hK.out _ _ hS3 (fun hSn=>?_)
     clear hK K
     try simp only[zqd,zqe,zqf]
     refine tka 23 76 ?_
     refine tka 24 77 ?_
     refine wpAnyH_done (by kernel_rfl) ?_ _
     clear hS0 hS1 hS2 hS3 hSn
     clear x0 x1 x2 x3 x4 y0
     have HTz:Hid (z3.heap[T]?=some (.cells #[.int .i64 p.step,.slice Ao no co,.slice Av nv cv,.slice Ac nc cc,.slice Ai ni ci] 42)):=hide ((Z3.out.block _ hTs).trans HT.out)
     have HJz:Hid (JS v0 st n P B1 B2 B3 (fillL (jV ps) 0 (dnI L i (p.own.take 0)) n) (fillL (jC ps) false (dnI L i (p.own.take 0)) n) (fillL (jM ps) (false,0) (dnI L i (p.own.take 0)) n) z3):=hide (by have h:=HJs.out.below Z3.out;rw[fill_congr (jV ps) 0 (dnI L i (p.own.take 0)) (dnW L i) n (fun u _=>dnI_nil L i u),fill_congr (jC ps) false (dnI L i (p.own.take 0)) (dnW L i) n (fun u _=>dnI_nil L i u),fill_congr (jM ps) (false,0) (dnI L i (p.own.take 0)) (dnW L i) n (fun u _=>dnI_nil L i u)];exact h)
     have x1:z3.cell? ⟨T,1,none⟩=some (.slice Ao no co):=cell_of_row _ _ 1 _ _ _ HTz.out
     have HRl:=hide (right_len HR.out)
     clear HJs HT Z1 Z2 Z3 HQ9 HO9 HZs HBs HKv
     have hTv:v0.heap.size≤T:=srw
     go_wp2
     go_loopw [82] (fun v82 wr=>∃j:Nat,j≤no∧v82 = .int .i64 (j:Int)∧Hid (wr.heap[T]?=some (.cells #[.int .i64 p.step,.slice Ao no co,.slice Av nv cv,.slice Ac nc cc,.slice Ai ni ci] 42))∧Hid (JS v0 st n P B1 B2 B3 (fillL (jV ps) 0 (dnI L i (p.own.take j)) n) (fillL (jC ps) false (dnI L i (p.own.take j)) n) (fillL (jM ps) (false,0) (dnI L i (p.own.take j)) n) wr)) (fun v82 _=>no-(intOf v82).toNat)
     case atStart=>exact⟨0,by omega,rfl,HTz,HJz⟩
     case round=>
      clear HTz HJz x1
      obtain⟨j,hj,rfl,hTT,hJ⟩:=hrel
      by_cases hltj:j<no
      ·as_aux_lemma=>
        have hJ1:(j:Int)<(no:Int):=by omega
        obtain⟨x,hx⟩:∃x,p.own[j]?=some x:=⟨_,List.getElem?_eq_getElem (by rw[HLen.out.1];exact hltj)⟩
        obtain⟨v,rfl⟩:=own_nat_ (by rw[←HOwn.out];exact hx)
        have hvn:v<n:=(own_of (by rw[←HOwn.out];exact hx)).2
        have hJA:=j_at hpl.out (by rw[HL.out];exact HOwn.out) hx
        obtain⟨a,ha⟩:∃a,p.vals[j]?=some a:=⟨_,List.getElem?_eq_getElem (by have:=HRl.out.1;have:=HLen.out.1;omega)⟩
        obtain⟨bb,hb⟩:∃a,p.chg[j]?=some a:=⟨_,List.getElem?_eq_getElem (by have:=HRl.out.2.1;have:=HLen.out.1;omega)⟩
        obtain⟨m,hm⟩:∃a,p.inb[j]?=some a:=⟨_,List.getElem?_eq_getElem (by have:=HRl.out.2.2;have:=HLen.out.1;omega)⟩
        have hnv:nv=no:=by have:=HRl.out.1;have:=HLen.out.1;have:=HLen.out.2.1;omega
        have hnc:nc=no:=by have:=HRl.out.2.1;have:=HLen.out.1;have:=HLen.out.2.2.1;omega
        have hni:ni=no:=by have:=HRl.out.2.2;have:=HLen.out.1;have:=HLen.out.2.2.2;omega
        have hV:jV ps v=a:=by unfold jV;rw[hJA.1,hJA.2,List.getD_eq_getElem?_getD,ha];rfl
        have hC:jC ps v=bb:=by unfold jC;rw[hJA.1,hJA.2,List.getD_eq_getElem?_getD,hb];rfl
        have hM:jM ps v=m:=by unfold jM;rw[hJA.1,hJA.2,List.getD_eq_getElem?_getD,hm];rfl
        have HS2:=hide (fun u (_:u<n)=>dnI_step (k:=L) (i:=i) (u:=u) hx)
        obtain⟨g0,o0,rfl,l0,q0⟩:=HIn.out.own.at1 (i64s_get hx)
        obtain⟨g1,o1,rfl,l1,q1⟩:=HIn.out.vals.at1 (i64s_get ha)
        obtain⟨g2,o2,rfl,l2,q2⟩:=HIn.out.chg.at1 (bools_getA? hb)
        obtain⟨g3,o3,rfl,l3,q3,q4⟩:=HIn.out.inb.ml hm
        have HJ2:Hid (JS v0 st n P B1 B2 B3 (fillL (jV ps) 0 (dnI L i (p.own.take (j+1))) n) (fillL (jC ps) false (dnI L i (p.own.take (j+1))) n) (fillL (jM ps) (false,0) (dnI L i (p.own.take (j+1))) n) ((((wr.setCell ⟨B1,v,none⟩ (.int .i64 a)).setCell ⟨B2,v,none⟩ (.bool bb)).setCell ⟨B3,v*2,none⟩ (.bool m.1)).setCell ⟨B3,v*2+1,none⟩ (.int .i64 m.2))):=hide (by have h:=hJ.out.store v a bb m;rw[fill_set (jV ps) 0 _ _ n v a hV HS2.out,fill_set (jC ps) false _ _ n v bb hC HS2.out,fill_set (jM ps) (false,0) _ _ n v m hM HS2.out] at h;exact h)
        have hlts:=hJ.out.lts
        have hss:v0.heap.size≤wr.heap.size:=hJ.out.hb.size
        have hne:=hJ.out.ne
        have hlo:=hJ.out.lo
        have k0:wr.cell? ⟨g0,o0+j,none⟩=some (.int .i64 (v:Int)):=(hJ.out.hb.cell (p:=⟨g0,o0+j,none⟩) l0).trans q0
        have k1:wr.cell? ⟨g1,o1+j,none⟩=some (.int .i64 a):=(hJ.out.hb.cell (p:=⟨g1,o1+j,none⟩) l1).trans q1
        have k2:wr.cell? ⟨g2,o2+j,none⟩=some (.bool bb):=(hJ.out.hb.cell (p:=⟨g2,o2+j,none⟩) l2).trans q2
        have k3:wr.cell? ⟨g3,o3+j*2,none⟩=some (.bool m.1):=(hJ.out.hb.cell (p:=⟨g3,o3+j*2,none⟩) l3).trans q3
        have k4:wr.cell? ⟨g3,o3+j*2+1,none⟩=some (.int .i64 m.2):=(hJ.out.hb.cell (p:=⟨g3,o3+j*2+1,none⟩) l3).trans q4
        have m0:g0<wr.heap.size:=by omega
        have m1:g1<wr.heap.size:=by omega
        have m2:g2<wr.heap.size:=by omega
        have m3:g3<wr.heap.size:=by omega
        rw[hnv,hnc,hni] at hTT
        have hTl:=lt_of_block hTT.out
        have x1:wr.cell? ⟨T,1,none⟩=some (.slice (some ⟨g0,o0,none⟩) no co):=cell_of_row _ _ 1 _ _ _ hTT.out
        have x2:wr.cell? ⟨T,2,none⟩=some (.slice (some ⟨g1,o1,none⟩) no cv):=cell_of_row _ _ 2 _ _ _ hTT.out
        have x3:wr.cell? ⟨T,3,none⟩=some (.slice (some ⟨g2,o2,none⟩) no cc):=cell_of_row _ _ 3 _ _ _ hTT.out
        have x4:wr.cell? ⟨T,4,none⟩=some (.slice (some ⟨g3,o3,none⟩) no ci):=cell_of_row _ _ 4 _ _ _ hTT.out
        have y1:wr.cell? ⟨P,1,none⟩=some (.slice (some ⟨B1,0,none⟩) n n):=cell_of_row _ _ 1 _ _ _ hJ.out.hP
        have y2:wr.cell? ⟨P,2,none⟩=some (.slice (some ⟨B2,0,none⟩) n n):=cell_of_row _ _ 2 _ _ _ hJ.out.hP
        have y3:wr.cell? ⟨P,3,none⟩=some (.slice (some ⟨B3,0,none⟩) n n):=cell_of_row _ _ 3 _ _ _ hJ.out.hP
        obtain⟨oa,hoa⟩:∃z,(i64s (fillL (jV ps) 0 (dnI L i (p.own.take j)) n))[v]?=some z:=⟨_,List.getElem?_eq_getElem (by rw[i64s_len,fill_len];exact hvn)⟩
        obtain⟨ob,hob⟩:∃z,(bools (fillL (jC ps) false (dnI L i (p.own.take j)) n))[v]?=some z:=⟨_,List.getElem?_eq_getElem (by rw[show ∀l:List Bool,(bools l).length=l.length from fun l=>by simp[bools],fill_len];exact hvn)⟩
        obtain⟨om,hom⟩:∃z,(mlFlat (fillL (jM ps) (false,0) (dnI L i (p.own.take j)) n))[v*2]?=some z:=⟨_,List.getElem?_eq_getElem (by rw[mlFlat_len,fill_len];omega)⟩
        obtain⟨on,hon⟩:∃z,(mlFlat (fillL (jM ps) (false,0) (dnI L i (p.own.take j)) n))[v*2+1]?=some z:=⟨_,List.getElem?_eq_getElem (by rw[mlFlat_len,fill_len];omega)⟩
        have s1:wr.cell? ⟨B1,v,none⟩=some oa:=(cell_of_row _ _ v _ _ _ hJ.out.h1).trans (by simpa using hoa)
        have s2:wr.cell? ⟨B2,v,none⟩=some ob:=(cell_of_row _ _ v _ _ _ hJ.out.h2).trans (by simpa using hob)
        have s3:wr.cell? ⟨B3,v*2,none⟩=some om:=(cell_of_row _ _ (v*2) _ _ _ hJ.out.h3).trans (by simpa using hom)
        have s4:wr.cell? ⟨B3,v*2+1,none⟩=some on:=(cell_of_row _ _ (v*2+1) _ _ _ hJ.out.h3).trans (by simpa using hon)
        have f1:wr.frozen? ⟨B1,v,none⟩=false:=frozen_of_row _ _ v _ _ hJ.out.h1
        have f2:wr.frozen? ⟨B2,v,none⟩=false:=frozen_of_row _ _ v _ _ hJ.out.h2
        have f3:wr.frozen? ⟨B3,v*2,none⟩=false:=frozen_of_row _ _ (v*2) _ _ hJ.out.h3
        have f4:wr.frozen? ⟨B3,v*2+1,none⟩=false:=frozen_of_row _ _ (v*2+1) _ _ hJ.out.h3
        have hv1:(v:Int)<(n:Int):=by omega
        have hv0:(0:Int)≤(v:Int):=by omega
        obtain⟨ne1,ne2,ne3,ne4,ne5,ne6⟩:=hne
        have HTT2:Hid (T≠B1∧T≠B2∧T≠B3):=hide ⟨by omega,by omega,by omega⟩
        clear hoa hob hom hon hx ha hb hm hJA hV hC hM HS2 q0 q1 q2 q3 q4
        have n01:g0≠B1:=by omega
        have n02:g0≠B2:=by omega
        have n03:g0≠B3:=by omega
        have n11:g1≠B1:=by omega
        have n12:g1≠B2:=by omega
        have n13:g1≠B3:=by omega
        have n21:g2≠B1:=by omega
        have n22:g2≠B2:=by omega
        have n23:g2≠B3:=by omega
        have n31:g3≠B1:=by omega
        have n32:g3≠B2:=by omega
        have n33:g3≠B3:=by omega
        have nT1:T≠B1:=HTT2.out.1
        have nT2:T≠B2:=HTT2.out.2.1
        have nT3:T≠B3:=HTT2.out.2.2
        go_upto_region 19 with fail
        refine wpL_region (S:=KeptX wr B1 B2 B3) [] (by kernel_rfl) (fun p _ _ _ _=>rfl) (fun hS0=>?_)
        refine tla 0 87 ?_
        refine tla 1 88 ?_
        refine tla 2 89 ?_
        refine tla 3 90 ?_
        refine tla 4 91 ?_
        refine tla 5 92 ?_
        refine tla 6 93 ?_
        refine tla 7 94 ?_
        refine tla 8 95 ?_
        refine tla 9 96 ?_
        refine tla 10 97 ?_
        refine tla 11 98 ?_
        refine tla 12 99 ?_
        refine tla 13 100 ?_
        refine tla 14 101 ?_
        refine tla 15 102 ?_
        refine tla 16 103 ?_
        refine tla 17 104 ?_
        refine tla 18 105 ?_
        refine tla 19 106 ?_
        refine tla 20 107 ?_
        refine tla 21 108 ?_
        refine tla 22 109 ?_
        refine tla 23 110 ?_
        refine tla 24 111 ?_
        refine stL_atA (i:=25) (by simp only[zqa,zqb,zqc];rfl) (by kernel_rfl) rfl (fun K hK=>?_)
        go_wp2_with fail
        refine hK.out _ _ (fun p hp h1 h2 h3=>(World.cell?_setCell_other _ _ _ _ (fun e=>h1 (by subst e;rfl))).trans (hS0 p hp h1 h2 h3)) (fun hSn=>?_)
        clear hK K
        try simp only[zqd,zqe,zqf]
        refine tla 26 112 ?_
        refine stL_atA (i:=27) (by simp only[zqa,zqb,zqc];rfl) (by kernel_rfl) rfl (fun K hK=>?_)
        obtain⟨w2,hw2⟩:∃z,(wr.setCell ⟨B1,v,none⟩ (.int .i64 a)).drew=z:=⟨_,rfl⟩
        rw[hw2]
        have hS1:KeptX wr B1 B2 B3 w2:=by rw[←hw2];exact (fun p hp h1 h2 h3=>(World.cell?_setCell_other _ _ _ _ (fun e=>h1 (by subst e;rfl))).trans (hS0 p hp h1 h2 h3))
        have s2b:w2.cell? ⟨B2,v,none⟩=some ob:=by rw[←hw2];exact (World.cell?_setCell_other _ _ _ _ (fun e=>ne4 (by injection e))).trans s2
        have f2b:w2.frozen? ⟨B2,v,none⟩=false:=by rw[←hw2];exact frozen_of_row _ _ v _ _ ((Below.heap_setCell _ _ _ _ (Ne.symm ne4)).trans hJ.out.h2)
        have s3b:w2.cell? ⟨B3,v*2,none⟩=some om:=by rw[←hw2];exact (World.cell?_setCell_other _ _ _ _ (fun e=>ne5 (by injection e))).trans s3
        have s4b:w2.cell? ⟨B3,v*2+1,none⟩=some on:=by rw[←hw2];exact (World.cell?_setCell_other _ _ _ _ (fun e=>ne5 (by injection e))).trans s4
        have h3b:w2.heap[B3]?=wr.heap[B3]?:=by rw[←hw2];exact Below.heap_setCell _ _ _ _ (Ne.symm ne5)
        have HW2:=hide hw2
        clear hw2
        go_wp2_with fail
        refine hK.out _ _ (fun p hp h1 h2 h3=>(World.cell?_setCell_other _ _ _ _ (fun e=>h2 (by subst e;rfl))).trans (hS1 p hp h1 h2 h3)) (fun hSn=>?_)
        clear hK K
        try simp only[zqd,zqe,zqf]
        refine tla 28 113 ?_
        refine stL_atA (i:=29) (by simp only[zqa,zqb,zqc];rfl) (by kernel_rfl) rfl (fun K hK=>?_)
        obtain⟨w3,hw3⟩:∃z,w2.setCell ⟨B2,v,none⟩ (.bool bb)=z:=⟨_,rfl⟩
        rw[hw3]
        have hS2:KeptX wr B1 B2 B3 w3:=by rw[←hw3];exact (fun p hp h1 h2 h3=>(World.cell?_setCell_other _ _ _ _ (fun e=>h2 (by subst e;rfl))).trans (hS1 p hp h1 h2 h3))
        have s3c:w3.cell? ⟨B3,v*2,none⟩=some om:=by rw[←hw3];exact (World.cell?_setCell_other _ _ _ _ (fun e=>ne6 (by injection e))).trans s3b
        have s4c:w3.cell? ⟨B3,v*2+1,none⟩=some on:=by rw[←hw3];exact (World.cell?_setCell_other _ _ _ _ (fun e=>ne6 (by injection e))).trans s4b
        have h3c:w3.heap[B3]?=some (.cells (mlFlat (fillL (jM ps) (false,0) (dnI L i (p.own.take j)) n)).toArray 51):=by rw[←hw3];exact (Below.heap_setCell _ _ _ _ (Ne.symm ne6)).trans (h3b.trans hJ.out.h3)
        have f3c:w3.frozen? ⟨B3,v*2,none⟩=false:=frozen_of_row _ _ (v*2) _ _ h3c
        have f4c:w3.frozen? ⟨B3,v*2+1,none⟩=false:=frozen_of_row _ _ (v*2+1) _ _ h3c
        have HW3:=hide hw3
        clear hw3 h3c h3b
        go_wp2_with fail
        refine hK.out _ _ (fun p hp h1 h2 h3=>(World.cell?_setCell_other _ _ _ _ (fun e=>h3 (by subst e;rfl))).trans ((World.cell?_setCell_other _ _ _ _ (fun e=>h3 (by subst e;rfl))).trans (hS2 p hp h1 h2 h3))) (fun hSn=>?_)
        clear hK K
        try simp only[zqd,zqe,zqf]
        refine wpAnyL_done (by kernel_rfl) ?_ _
        clear hS0 hS1 hS2 hSn
        have HJ3:Hid (JS v0 st n P B1 B2 B3 (fillL (jV ps) 0 (dnI L i (p.own.take (j+1))) n) (fillL (jC ps) false (dnI L i (p.own.take (j+1))) n) (fillL (jM ps) (false,0) (dnI L i (p.own.take (j+1))) n) ((w3.setCell ⟨B3,v*2,none⟩ (.bool m.1)).setCell ⟨B3,v*2+1,none⟩ (.int .i64 m.2))):=hide (by rw[←HW3.out,←HW2.out];have h:=HJ2.out;exact⟨h.lo,h.ne,h.hP,h.h1,h.h2,h.h3,h.lv,⟨h.hb.os,h.hb.tape,h.hb.output,h.hb.size,h.hb.block⟩⟩)
        have HT3:Hid (((w3.setCell ⟨B3,v*2,none⟩ (.bool m.1)).setCell ⟨B3,v*2+1,none⟩ (.int .i64 m.2)).heap[T]?=some (.cells #[.int .i64 p.step,.slice (some ⟨g0,o0,none⟩) no co,.slice (some ⟨g1,o1,none⟩) no cv,.slice (some ⟨g2,o2,none⟩) no cc,.slice (some ⟨g3,o3,none⟩) no ci] 42)):=hide (by rw[←HW3.out,←HW2.out,Below.heap_setCell _ _ _ _ nT3,Below.heap_setCell _ _ _ _ nT3,Below.heap_setCell _ _ _ _ nT2];exact (Below.heap_setCell _ _ _ _ nT1).trans hTT.out)
        have HT4:=HT3
        go_wp2
        go_roundw
        case rel=>exact⟨j+1,by omega,by go_num,by rw[hnv,hnc,hni];exact HT4,HJ3⟩
        case measure=>simp[intOf];omega
      obtain rfl:no=j:=by omega
      have HJf:Hid (JS v0 st n P B1 B2 B3 (fillL (jV ps) 0 (dnW L (i+1)) n) (fillL (jC ps) false (dnW L (i+1)) n) (fillL (jM ps) (false,0) (dnW L (i+1)) n) wr):=hide (by have h:=hJ.out;rw[List.take_of_length_le (by rw[HLen.out.1];omega),HOwn.out] at h;rw[fill_congr (jV ps) 0 _ (dnW L (i+1)) n (fun u hu=>dnI_full hu),fill_congr (jC ps) false _ (dnW L (i+1)) n (fun u hu=>dnI_full hu),fill_congr (jM ps) (false,0) _ (dnW L (i+1)) n (fun u hu=>dnI_full hu)] at h;exact h)
      have HFf:Hid (∀(q:Nat) (p:SPart),q<i+1→ps[q]?=some p→fitJ ps q p=true):=hide (fun q p' hq hp'=>by rcases Nat.lt_or_ge q i with h | h;exact hfit.out q p' h hp';obtain rfl:q=i:=(by omega);rw[hpl.out] at hp';obtain rfl:=Option.some.inj hp';exact HFi.out)
      go_wp2
      go_roundw
      case rel=>exact⟨i+1,by omega,by go_num,HFf,HJf⟩
      case measure=>simp[intOf];omega
    obtain rfl:L=i:=by omega
    have ZW:Hid (wr.heap[w.heap.size]?=some (.cells #[.int .i64 0,.slice none 0 0,.slice none 0 0,.slice none 0 0,.int .i64 0,.int .i64 0] 33)):=hide ((hJ.out.hb.block _ (by omega)).trans M0.out)
    have HBf:Hid (Below w.heap.size w wr):=hide (HB0.out.trans (hJ.out.hb.mono (by omega)))
    by_cases hn0:n=0
    ·have HN:Hid (¬okJ ps):=hide (fun h=>by have h1:=h.2.2.1;rw[HN0.out] at h1;omega)
     have hnI:(n:Int)=0:=by omega
     obtain⟨zc0,zc1,zc2,zc3,zc4,zc5⟩:=zr6 ZW.out
     have zq:=zf ZW.out;have zcf0:=zq 0;have zcf1:=zq 1;have zcf2:=zq 2;have zcf3:=zq 3;have zcf4:=zq 4;have zcf5:=zq 5;clear zq
     have HFin:=hide (six_fin (.int .i64 0) (.slice none 0 0) (.slice none 0 0) (.slice none 0 0) (.int .i64 0) (.int .i64 0) (.int .i64 0) (.slice none 0 0) (.slice none 0 0) (.slice none 0 0) (.int .i64 0) (.int .i64 0) (Nat.le_refl w.heap.size) ZW.out HBf.out)
     go_wp2
     obtain⟨f,hf,hfB,h6,hfs,hfo⟩:=HFin.out
     rw[hf]
     obtain⟨y0,y1,y2,y3,y4,y5⟩:=zr6 h6
     exact bodyPost_ret (v:=.tuple #[.agg #[.int .i64 0,.slice none 0 0,.slice none 0 0,.slice none 0 0,.int .i64 0,.int .i64 0],.int .i64 4]) (by simp[results,Tryz.results20,go_sem,y0,y1,y2,y3,y4,y5]) rfl (.inr ⟨HN.out,rfl,hfB⟩)
    have hnI:¬(n:Int)=0:=by omega
    have hn5:n≤512:=by obtain⟨p,hp⟩:∃p,ps[0]?=some p:=⟨_,List.getElem?_eq_getElem (by rw[HL.out];omega)⟩;have h:=(fit_iff.1 (hfit.out 0 p (by omega) hp)).2.2.1;rw[HN0.out] at h;exact h
    have HOk:Hid (okJ ps):=hide ⟨by rw[HL.out];omega,by rw[HL.out];omega,by rw[HN0.out];omega,fun q p hp=>hfit.out q p (by have:=(List.getElem?_eq_some_iff.1 hp).1;rw[HL.out] at this;exact this) hp⟩
    have HJf:Hid (JS v0 st n P B1 B2 B3 ((List.range n).map (jV ps)) ((List.range n).map (jC ps)) ((List.range n).map (jM ps)) wr):=hide (by have h:=hJ.out;rw[fill_all _ _ _ n (fun u hu=>dnW_all hu hn5 (by omega) h64),fill_all _ _ _ n (fun u hu=>dnW_all hu hn5 (by omega) h64),fill_all _ _ _ n (fun u hu=>dnW_all hu hn5 (by omega) h64)] at h;exact h)
    obtain⟨g0,g1,g2,g3,g4,g5⟩:=zr6 HJf.out.hP
    have hPl:=HJf.out.lts.1
    obtain⟨zc0,zc1,zc2,zc3,zc4,zc5⟩:=zr6 ZW.out
    have zq:=zf ZW.out;have zcf0:=zq 0;have zcf1:=zq 1;have zcf2:=zq 2;have zcf3:=zq 3;have zcf4:=zq 4;have zcf5:=zq 5;clear zq
    have HFin:=hide (six_fin (.int .i64 0) (.slice none 0 0) (.slice none 0 0) (.slice none 0 0) (.int .i64 0) (.int .i64 0) (.int .i64 st) (.slice (some ⟨B1,0,none⟩) n n) (.slice (some ⟨B2,0,none⟩) n n) (.slice (some ⟨B3,0,none⟩) n n) (.int .i64 0) (.int .i64 0) (Nat.le_refl w.heap.size) ZW.out HBf.out)
    go_wp2
    obtain⟨f,hf,hfB,h6,hfs,hfo⟩:=HFin.out
    rw[hf]
    obtain⟨y0,y1,y2,y3,y4,y5⟩:=zr6 h6
    have hB1:Rd f f.heap.size (some ⟨B1,0,none⟩) (i64s ((List.range n).map (jV ps))):=by have h:=Rd.of_block ((hfo B1 (by have:=HJf.out.lo;omega)).trans HJf.out.h1);simpa using h
    have hB2:Rd f f.heap.size (some ⟨B2,0,none⟩) (bools ((List.range n).map (jC ps))):=by have h:=Rd.of_block ((hfo B2 (by have:=HJf.out.lo;omega)).trans HJf.out.h2);simpa using h
    have hB3:Rd f f.heap.size (some ⟨B3,0,none⟩) (mlFlat ((List.range n).map (jM ps))):=by have h:=Rd.of_block ((hfo B3 (by have:=HJf.out.lo;omega)).trans HJf.out.h3);simpa using h
    exact bodyPost_ret (v:=.tuple #[.agg #[.int .i64 st,.slice (some ⟨B1,0,none⟩) n n,.slice (some ⟨B2,0,none⟩) n n,.slice (some ⟨B3,0,none⟩) n n,.int .i64 0,.int .i64 0],.int .i64 0]) (by simp[results,Tryz.results20,go_sem,y0,y1,y2,y3,y4,y5]) rfl (.inl ⟨HOk.out,some ⟨B1,0,none⟩,some ⟨B2,0,none⟩,some ⟨B3,0,none⟩,n,n,n,by rw[HSt.out,HN0.out],by rw[HN0.out];exact hB1,by rw[HN0.out];exact hB2,by rw[HN0.out];exact hB3,hfB⟩)
end Go.Proofs.YtpojjmbalgmcoaaGreat

/- Lemmas: Mhs, Mtl, Sqp. -/
import Derived.Test.YtpojjmbalgmcoaaGreatProg
import Derived.Lib.Hide
import Derived.WalkSpells
import Derived.WalkMore
import Derived.Deep.Strs
import Derived.IntWalk
import Derived.Test.YtpojjmbalgmcoaaGreatStWw47
import Derived.Test.YtpojjmbalgmcoaaGreatStWw50
set_option linter.unusedVariables false
set_option linter.unusedSimpArgs false
set_option maxRecDepth 100000
set_option maxHeartbeats 16000000
namespace Go.Proofs.YtpojjmbalgmcoaaGreat
open Go.RowKit Go.Shelf
def VxR (es:List Ed) (x:VX) (w:World):Prop:=(fromF es x.v).length=x.no∧(toF es x.v).length=x.nb∧Eds w w.heap.size x.Ao (fromF es x.v)∧Eds w w.heap.size x.Ab (toF es x.v)
theorem VxR.next {es:List Ed} {x:VX} {w w':World} (h:VxR es x w) (hb:Below w.heap.size w w'):VxR es x w':=
 ⟨h.1,h.2.1,(h.2.2.1.below hb (Nat.le_refl _)).more hb.size,(h.2.2.2.below hb (Nat.le_refl _)).more hb.size⟩
structure MHas (m V:Nat) (A:Option Addr) (L c:Nat) (k j1 j2 j3 j4:Int) (es:List Ed) (xs:List VX) (Aof Aow:Option Addr) (cof cow:Nat) (w:World):Prop where
 mem:w.heap[m]?=some (.cells #[.int .i64 (V:Int),.slice A L c,.int .u8 k,.int .i64 j1,.int .i64 j2,.int .i64 j3,.int .i64 j4,.slice Aof V cof,.slice Aow V cow] 136)
 all:VxAll V xs
 of:Rd w w.heap.size Aof (vxFlat xs)
 own:Rd w w.heap.size Aow (i64s (ownL V))
 rows:∀x∈xs,VxR es x w
theorem MHas.lt {m V L c cof cow:Nat} {A Aof Aow:Option Addr} {k j1 j2 j3 j4:Int} {es:List Ed} {xs:List VX} {w:World} (h:MHas m V A L c k j1 j2 j3 j4 es xs Aof Aow cof cow w):m<w.heap.size:=(Array.getElem?_eq_some_iff.1 h.mem).1
theorem MHas.next {m V L c cof cow:Nat} {A Aof Aow:Option Addr} {k j1 j2 j3 j4:Int} {es:List Ed} {xs:List VX} {w w':World} (h:MHas m V A L c k j1 j2 j3 j4 es xs Aof Aow cof cow w) (hb:Below w.heap.size w w'):MHas m V A L c k j1 j2 j3 j4 es xs Aof Aow cof cow w':=
 ⟨(hb.block m h.lt).trans h.mem,h.all,h.of.next hb,h.own.next hb,fun x hx=>(h.rows x hx).next hb⟩
theorem VxAll.len {V:Nat} {xs:List VX} (h:VxAll V xs):xs.length=V:=by
 have:=congrArg List.length h
 simpa using this
theorem VxAll.at_ {V:Nat} {xs:List VX} (h:VxAll V xs) {i:Nat} {x:VX} (hx:xs[i]?=some x):x.v=i:=by
 have h1:(xs.map VX.v)[i]?=some x.v:=by simp[hx]
 rw[show xs.map VX.v=List.range V from h] at h1
 have h2:=(List.getElem?_eq_some_iff.1 h1).1
 rw[List.getElem?_range (by simpa using h2)] at h1
 exact (Option.some.inj h1).symm
theorem vxFlat_get {xs:List VX}:∀{i:Nat} {x:VX},xs[i]?=some x→(vxFlat xs)[i*2]?=some (.slice x.Ao x.no x.co)∧(vxFlat xs)[i*2+1]?=some (.slice x.Ab x.nb x.cb):=by
 induction xs with
 | nil=>intro i x h;cases h
 | cons y xs ih=>
  intro i x h
  cases i with
  | zero=>
   obtain rfl:=Option.some.inj h
   exact⟨rfl,rfl⟩
  | succ i=>
   have h1:=ih (i:=i) (x:=x) (by simpa using h)
   have e:vxFlat (y :: xs)=[.slice y.Ao y.no y.co,.slice y.Ab y.nb y.cb] ++ vxFlat xs:=by simp[vxFlat]
   rw[e,show (i+1)*2=i*2+2 by omega,show i*2+2+1=i*2+1+2 by omega]
   exact⟨by rw[List.getElem?_append_right (by simp)];simpa using h1.1,by rw[List.getElem?_append_right (by simp)];simpa using h1.2⟩
theorem vxOwn_eq {V:Nat} {xs:List VX} (h:VxAll V xs):vxOwn xs=i64s (ownL V):=by
 unfold vxOwn i64s ownL
 rw[←show xs.map VX.v=List.range V from h,List.map_map,List.map_map]
 rfl
theorem MI.has {B m V L c:Nat} {A:Option Addr} {k j1 j2 j3 j4:Int} {es:List Ed} {w0:World} {xs:List VX} {W:World} (h:MI B m V A L c k j1 j2 j3 j4 es w0 xs W) (ha:VxAll V xs) (hw:wt es):∃Aof Aow cof cow,MHas m V A L c k j1 j2 j3 j4 es xs Aof Aow cof cow W:=by
 obtain⟨⟨Aof,cof,Aow,cow,h1,h2,h3⟩,_,h4,_,_⟩:=h
 have hl:=ha.len
 refine⟨Aof,Aow,cof,cow,by rw[hl] at h1;exact h1,ha,Rd.of_own h2,by rw[←vxOwn_eq ha];exact Rd.of_own h3,fun x hx=>?_⟩
 obtain⟨g1,g2,g3,g4⟩:=h4 x hx
 exact⟨g1,g2,Eds.of_rd (Rd.of_own g3) (fun e he=>hw e (List.mem_filter.1 he).1),Eds.of_rd (Rd.of_own g4) (fun e he=>hw e (List.mem_filter.1 he).1)⟩
attribute [local go_sem] Oper.semAt_some
theorem allocs3 {w u:World} {o0 o1 o2:Obj} (h:((w.alloc o0).alloc o1).alloc o2=u):Below w.heap.size w u∧u.heap.size=w.heap.size+3∧u.heap[w.heap.size]?=some o0∧u.heap[w.heap.size+1]?=some o1∧u.heap[w.heap.size+2]?=some o2:=by
 subst h
 refine⟨(((Below.refl _ _).alloc (Nat.le_refl _) _).alloc (by simp) _).alloc (by simp <;> omega) _,by simp,?_,?_,?_⟩
 ·exact (Below.heap_alloc _ _ _ (by simp <;> omega)).trans ((Below.heap_alloc _ _ _ (by simp)).trans (heap_alloc_last w _))
 ·have h:=heap_alloc_last (w.alloc o0) o1
  rw[World.size_alloc] at h
  exact (Below.heap_alloc _ _ _ (by simp <;> omega)).trans h
 have h:=heap_alloc_last ((w.alloc o0).alloc o1) o2
 rw[World.size_alloc,World.size_alloc] at h
 exact h
theorem mtell_any (w:World) (m V:Nat) (A:Option Addr) (L c:Nat) (k j1 j2 j3 j4:Int) (es:List Ed) (xs:List VX) (Aof Aow:Option Addr) (cof cow:Nat) (hMH:MHas m V A L c k j1 j2 j3 j4 es xs Aof Aow cof cow w) (hV:V≤512) (hL:es.length=L) (hL5:L≤80) (hEB:edsB es) (st sm mo:Int) (was vals:List Int) (chs:List Bool) (Av Ac Ai Aw:Option Addr) (cv cc ni ci cw:Nat)
  (hv:vals.length=V∧Rd w w.heap.size Av (i64s vals)∧∀x∈vals,i64V x) (hc:chs.length=V∧Rd w w.heap.size Ac (bools chs)) (hw:was.length=V∧Rd w w.heap.size Aw (i64s was)∧∀x∈was,i64V x) :
  Calls Tryz.prog 73 #[.pointer (some ⟨m,0,none⟩),.agg #[.int .i64 st,.slice Av V cv,.slice Ac V cc,.slice Ai ni ci,.int .i64 sm,.int .i64 mo],.slice Aw V cw] w (TellPost w k es was vals chs V st Av Ac cv cc):=by
 obtain⟨b0,b0i,b0z,b0s,b0b⟩:=info_parts (show (Tryz.prog.info? 166).map (fun i=>(i.zero,i.size,i.bytes))=some (some (.slice none 0 0),1,24) by kernel_rfl)
 have hm0:=hMH.lt
 have HMH:=hide hMH
 have HL:=hide hL
 have HV:=hide hv
 have HC:=hide hc
 have HW:=hide hw
 clear hL hv hc hw hMH
 go_enter Tryz.func73,Tryz.ntmps73
 go_upto_region 3 with fail
 obtain⟨u,hu⟩:∃u,((w.alloc (.cells #[.int .i64 st,.slice Av V cv,.slice Ac V cc,.slice Ai ni ci,.int .i64 sm,.int .i64 mo] 33)).alloc (.cells #[.int .i64 0,.slice none 0 0,.slice none 0 0,.slice none 0 0,.int .i64 0,.int .i64 0] 33)).alloc (.cells #[.int .i64 0,.int .i64 0] 165)=u:=⟨_,rfl⟩
 rw[hu]
 have HU:=hide (allocs3 hu)
 clear hu
 have hzu:u.heap.size=w.heap.size+3:=HU.out.2.1
 have c7:u.cell? ⟨m,7,none⟩=some (.slice Aof V cof):=cell_of_row _ _ 7 _ _ _ ((HU.out.1.block m hm0).trans HMH.out.mem)
 have hmu:m<u.heap.size:=by omega
 go_wp2
 clear c7
 go_loopw [16,7,9,10] (fun v16 v7 _ _ wr=>∃(i:Nat) (Ar:Option Addr) (cr:Nat),i≤V∧v16 = .int .i64 (i:Int)∧v7 = .slice Ar i cr∧Hid (MRX u.heap.size wr (rowsV k es vals chs i) Ar i cr none)∧Hid (Below w.heap.size w wr)∧Hid (u.heap.size≤wr.heap.size∧(∀q,q<w.heap.size+2→wr.heap[q]?=u.heap[q]?)∧wr.heap[w.heap.size+2]?=some (.cells #[.int .i64 (totV k es was vals chs i).1,.int .i64 (totV k es was vals chs i).2] 165))) (fun v16 _ _ _ _=>V-(intOf v16).toNat)
 case atStart=>exact⟨0,none,0,by omega,rfl,rfl,hide (MRX.zero _ _ _),hide HU.out.1,hide ⟨Nat.le_refl _,fun _ _=>rfl,HU.out.2.2.2.2⟩⟩
 case round=>
  obtain⟨i,Ar,cr,hi,rfl,rfl,HMr,HBr,HM⟩:=hrel
  have srw:u.heap.size≤wr.heap.size:=HM.out.1
  by_cases hlt:i<V
  ·have hI1:(i:Int)<(V:Int):=by omega
   have hI0:(0:Int)≤(i:Int):=by omega
   have hw0:w.heap.size<wr.heap.size:=by omega
   have HH:=hide (HMH.out.next HBr.out)
   obtain⟨x,hx⟩:∃x,xs[i]?=some x:=⟨_,List.getElem?_eq_getElem (by rw[HH.out.all.len];exact hlt)⟩
   have hxv:=HH.out.all.at_ hx
   obtain⟨l1,l2,ee1,ee2⟩:=HH.out.rows x (List.mem_of_getElem? hx)
   rw[hxv] at l1 l2 ee1 ee2
   obtain⟨h0,h1⟩:=vxFlat_get hx
   obtain⟨gO,oO,hAO,hgO,hcO⟩:=HH.out.of.at_ (List.getElem?_eq_some_iff.1 h0).1
   subst hAO
   have k0:=hcO _ _ h0
   have k1:wr.cell? ⟨gO,oO+i*2+1,none⟩=some (.slice x.Ab x.nb x.cb):=by rw[Nat.add_assoc];exact hcO _ _ h1
   have HL1:=hide l1
   have HL2:=hide l2
   clear hx hxv l1 l2 h0 h1 hcO
   obtain⟨ws,hws⟩:∃q,wr.alloc (.cells #[.slice x.Ao x.no x.co,.slice x.Ab x.nb x.cb] 141)=q:=⟨_,rfl⟩
   have HTW:Hid (ws.heap[wr.heap.size]?=some (.cells #[.slice x.Ao x.no x.co,.slice x.Ab x.nb x.cb] 141)):=hide (by rw[←hws];exact heap_alloc_last _ _)
   have HBs:=hide (show Below wr.heap.size wr ws by rw[←hws];exact (Below.refl _ _).alloc (Nat.le_refl _) _)
   have HWS:=hide hws
   have hbt:wr.heap.size<ws.heap.size:=by rw[←hws];simp
   clear hws
   have HEo:=hide ((ee1.below HBs.out (Nat.le_refl _)).more HBs.out.size)
   have HEb:=hide ((ee2.below HBs.out (Nat.le_refl _)).more HBs.out.size)
   have HBw:=hide (HBr.out.trans (HBs.out.mono HBr.out.size))
   clear ee1 ee2
   obtain⟨vx,hvx⟩:∃y,vals[i]?=some y:=⟨_,List.getElem?_eq_getElem (by rw[HV.out.1];exact hlt)⟩
   obtain⟨g3,o3,rfl,hg3,x0⟩:=HV.out.2.1.at1 (i64s_get hvx)
   obtain⟨ch,hch⟩:∃y,chs[i]?=some y:=⟨_,List.getElem?_eq_getElem (by rw[HC.out.1];exact hlt)⟩
   obtain⟨g4,o4,rfl,hg4,x1⟩:=HC.out.2.at1 (show (bools chs)[i]?=some (.bool ch) by simp[bools,hch])
   obtain⟨wx,hwx⟩:∃y,was[i]?=some y:=⟨_,List.getElem?_eq_getElem (by rw[HW.out.1];exact hlt)⟩
   obtain⟨g5,o5,rfl,hg5,x2⟩:=HW.out.2.1.at1 (i64s_get hwx)
   have X0:=hide x0
   have X1:=hide x1
   have X2:=hide x2
   have HGV:=hide (show vals.getD i 0=vx by simp[List.getD_eq_getElem?_getD,hvx])
   have HGC:=hide (show chs.getD i false=ch by simp[List.getD_eq_getElem?_getD,hch])
   have HGW:=hide (show was.getD i 0=wx by simp[List.getD_eq_getElem?_getD,hwx])
   have HVX:=hide (HV.out.2.2 vx (List.mem_of_getElem? hvx))
   have HWX:=hide (HW.out.2.2 wx (List.mem_of_getElem? hwx))
   have HRV:=hide (show rowV k es vals chs i=sndD k ch (i:Int) vx (fromF es i) (toF es i) by unfold rowV;rw[HGV.out,HGC.out])
   obtain⟨rv,hrv⟩:∃q,rowV k es vals chs i=q:=⟨_,rfl⟩
   have HRVs:=hide (HRV.out.symm.trans hrv)
   have HRVs2:=hide hrv.symm
   have HTV:=hide (show totV k es was vals chs (i+1)=joinF k (totV k es was vals chs i).1 (totV k es was vals chs i).2 (partT k wx vx ch (fromF es i).length).1 (partT k wx vx ch (fromF es i).length).2 by rw[totV,HGW.out,HGV.out,HGC.out])
   have HNO:=hide (show x.no=(fromF es i).length from HL1.out.symm)
   clear x0 x1 x2 hvx hch hwx hrv
   go_upto_region 6 with fail
   rw[HWS.out]
   obtain⟨T,hTe⟩:∃q,wr.heap.size=q:=⟨_,rfl⟩
   rw[hTe] at HTW hbt ⊢
   clear k0 k1
   obtain⟨k0,k1⟩:=zr2 HTW.out
   have GM:=(HBw.out.block m hm0).trans HMH.out.mem
   have d0:ws.cell? ⟨m,2,none⟩=some (.int .u8 k):=cell_of_row _ _ 2 _ _ _ GM
   have d1:ws.cell? ⟨m,3,none⟩=some (.int .i64 j1):=cell_of_row _ _ 3 _ _ _ GM
   have d2:ws.cell? ⟨m,4,none⟩=some (.int .i64 j2):=cell_of_row _ _ 4 _ _ _ GM
   have d3:ws.cell? ⟨m,5,none⟩=some (.int .i64 j3):=cell_of_row _ _ 5 _ _ _ GM
   have d4:ws.cell? ⟨m,6,none⟩=some (.int .i64 j4):=cell_of_row _ _ 6 _ _ _ GM
   have G0:=(HBs.out.block w.heap.size (by omega)).trans ((HM.out.2.1 w.heap.size (by omega)).trans HU.out.2.2.1)
   have s1:ws.cell? ⟨w.heap.size,1,none⟩=some (.slice (some ⟨g3,o3,none⟩) V cv):=cell_of_row _ _ 1 _ _ _ G0
   have s2:ws.cell? ⟨w.heap.size,2,none⟩=some (.slice (some ⟨g4,o4,none⟩) V cc):=cell_of_row _ _ 2 _ _ _ G0
   have e0:ws.cell? ⟨g3,o3+i,none⟩=some (.int .i64 vx):=(HBw.out.cell (p:=⟨g3,o3+i,none⟩) hg3).trans X0.out
   have e1:ws.cell? ⟨g4,o4+i,none⟩=some (.bool ch):=(HBw.out.cell (p:=⟨g4,o4+i,none⟩) hg4).trans X1.out
   clear GM G0
   have zz1:m<ws.heap.size:=by omega
   have zz2:w.heap.size<ws.heap.size:=by omega
   have zz3:g3<ws.heap.size:=by omega
   have zz4:g4<ws.heap.size:=by omega
   refine wpL_region (S:=Kept ws) [22,23] (by kernel_rfl) (Kept.drew ws) (fun hS0=>?_)
   refine tla 0 21 ?_
   refine twa 1 22 ?_
   refine twa 2 23 ?_
   refine twa 3 24 ?_
   refine tua [4,20,21,22,23] 4 25 ?_
   refine twa 5 26 ?_
   refine twa 6 27 ?_
   refine tua [7,9,10,20,21,22,23] 7 28 ?_
   refine twa 8 29 ?_
   refine twa 9 30 ?_
   refine tua [10,20,21,22,23] 10 31 ?_
   refine twa 11 32 ?_
   refine tua [12,14,15,20,21,22,23] 12 33 ?_
   refine twa 13 34 ?_
   refine twa 14 35 ?_
   refine tua [15,20,21,22,23] 15 36 ?_
   refine twa 16 37 ?_
   refine tua [17,20,21,22,23] 17 38 ?_
   refine twa 18 39 ?_
   refine tua [19,20,21,22,23] 19 40 ?_
   refine cl 20 41 fun K hK=>?_
   go_simp
   refine (asendN_any ws.drew k j1 j2 j3 j4 (i:Int) vx ch x.Ao x.Ab (fromF es i) (toF es i) x.no x.co x.nb x.cb HL1.out HL2.out HEo.out HEb.out (by have:=fromF_le es i;have:=HL.out;have:=HL1.out;omega) (by have:=toF_le es i;have:=HL.out;have:=HL2.out;omega) HVX.out).mono ?_
   rw[HRVs.out]
   rintro e z3 ⟨A4,c4',rfl,hm4,hz3,hn4⟩
   have hS1:Kept ws z3:=hS0.below (Nat.le_refl _) hz3
   have HZ3:Hid (Below ws.heap.size ws z3):=hide (below_undrew hz3)
   have hsy3:ws.heap.size≤z3.heap.size:=hz3.size
   have HM4:=hide hm4.rd
   have HN4:Hid (NewA ws.heap.size A4):=hide hn4
   clear hm4 hz3 hn4
   go_wp2_with fail
   refine hK.out _ _ hS1 (fun hSn=>?_)
   clear hK K
   try simp only[zqd,zqe,zqf]
   refine cl 21 42 fun K hK=>?_
   go_simp
   have hS2:Kept ws (z3.alloc (.cells #[.slice A4 rv.length c4'] 166)):=fun p hp=>(World.cell?_alloc_lt _ _ _ (Nat.lt_of_lt_of_le hp hsy3)).trans (hS1 p hp)
   refine hK.out _ _ hS2 (fun hSn=>?_)
   clear hK K
   try simp only[zqd,zqe,zqf]
   refine xl 22 fun K hK=>?_
   have HZ4:=hide (HZ3.out.alloc hsy3 (.cells #[.slice A4 rv.length c4'] 166))
   obtain⟨hs,ho,hl,hmm⟩:=(HMr.out.next HBs.out).next HZ4.out
   have hhs:hs.length=i:=by have:=ho.1;omega
   have HLm:=hide hl
   have HMm:=hide hmm
   have HOm:=hide ho
   clear hl hmm ho
   refine op_app (.tmp 21) (.tmp 42) 163 rfl u.heap.size 166 b0 (.slice none 0 0) 1 24 Tryz.underlying163 b0i b0z b0s b0b rfl (by decide) (.slice Ar i cr) i hs rfl HOm.out (z3.heap.size+1) (some ⟨z3.heap.size,0,none⟩) 1 1 [.slice A4 rv.length c4'] rfl rfl (Rd.new _ _ _ _) (by simp[Value.oneCell']) (by unfold maxLen;omega) (by omega) (by simp;omega) ?_
   intro A5 c5 y3 own3 hg3' hat3
   have hrd:Rd (z3.alloc (.cells #[.slice A4 rv.length c4'] 166)) (z3.alloc (.cells #[.slice A4 rv.length c4'] 166)).heap.size A4 (msFlat rv):=HM4.out.next ((Below.refl z3.heap.size z3).alloc (Nat.le_refl _) _)
   have HM3:=hide (MRX.step HMm.out HLm.out hhs ⟨⟨RdY.new hrd HN4.out (fun g hg=>(HMr.out.next HBs.out).lt hg),RdY.new hrd HN4.out (fun g hg=>by cases hg)⟩,HN4.out.mono (by omega)⟩ hg3' hat3 own3)
   have HB3:=hide (app_below (HBw.out.trans (HZ4.out.mono HBw.out.size)) HOm.out hg3' (by rw[World.size_alloc];omega) (by omega))
   have HQ3:=hide (show ∀q,q<w.heap.size+3→y3.heap[q]?=wr.heap[q]? from fun q hq=>(hg3'.block q (by rw[World.size_alloc];omega) (fun e=>by have:=(HOm.out.lt q e.symm).1;omega)).trans ((HZ4.out.block q (by omega)).trans (HBs.out.block q (by omega))))
   have HT3:=hide ((hg3'.block T (by rw[World.size_alloc];omega) (fun e=>by have:=HMr.out.lt e.symm;omega)).trans ((HZ4.out.block T hbt).trans HTW.out))
   have hsy4:z3.heap.size+1≤y3.heap.size:=by have:=hg3'.size;rwa [World.size_alloc] at this
   clear hrd own3 hg3' hat3
   refine hK.out _ _ ?_
   clear hK K
   simp only[Act.put]
   try simp only[zqd,zqe,zqf]
   refine twa 23 7 ?_
   refine wpAnyL_done (by kernel_rfl) ?_ _
   clear hS0 hSn hS1 hS2 k0 k1 d0 d1 d2 d3 d4 s1 s2 e0 e1 zz1 zz2 zz3 zz4
   have k0:y3.cell? ⟨T,0,none⟩=some (.slice x.Ao x.no x.co):=cell_of_row _ _ 0 _ _ _ HT3.out
   have GM:=(HB3.out.block m hm0).trans HMH.out.mem
   have d0:y3.cell? ⟨m,2,none⟩=some (.int .u8 k):=cell_of_row _ _ 2 _ _ _ GM
   have d1:y3.cell? ⟨m,3,none⟩=some (.int .i64 j1):=cell_of_row _ _ 3 _ _ _ GM
   have d2:y3.cell? ⟨m,4,none⟩=some (.int .i64 j2):=cell_of_row _ _ 4 _ _ _ GM
   have d3:y3.cell? ⟨m,5,none⟩=some (.int .i64 j3):=cell_of_row _ _ 5 _ _ _ GM
   have d4:y3.cell? ⟨m,6,none⟩=some (.int .i64 j4):=cell_of_row _ _ 6 _ _ _ GM
   have G0:=(HQ3.out w.heap.size (by omega)).trans ((HM.out.2.1 w.heap.size (by omega)).trans HU.out.2.2.1)
   have s1:y3.cell? ⟨w.heap.size,1,none⟩=some (.slice (some ⟨g3,o3,none⟩) V cv):=cell_of_row _ _ 1 _ _ _ G0
   have s2:y3.cell? ⟨w.heap.size,2,none⟩=some (.slice (some ⟨g4,o4,none⟩) V cc):=cell_of_row _ _ 2 _ _ _ G0
   have e0:y3.cell? ⟨g3,o3+i,none⟩=some (.int .i64 vx):=(HB3.out.cell (p:=⟨g3,o3+i,none⟩) hg3).trans X0.out
   have e1:y3.cell? ⟨g4,o4+i,none⟩=some (.bool ch):=(HB3.out.cell (p:=⟨g4,o4+i,none⟩) hg4).trans X1.out
   clear GM G0
   have zz1:m<y3.heap.size:=by omega
   have zz2:w.heap.size<y3.heap.size:=by omega
   have zz3:g3<y3.heap.size:=by omega
   have zz4:g4<y3.heap.size:=by omega
   have T0:=(HQ3.out (w.heap.size+2) (by omega)).trans HM.out.2.2
   obtain⟨t0,t1⟩:=zr2 T0
   clear T0
   have e2:y3.cell? ⟨g5,o5+i,none⟩=some (.int .i64 wx):=(HB3.out.cell (p:=⟨g5,o5+i,none⟩) hg5).trans X2.out
   have zz5:g5<y3.heap.size:=by omega
   have zz6:w.heap.size+1+1<y3.heap.size:=by omega
   have zz7:T<y3.heap.size:=by omega
   go_upto_region 7 with fail
   refine wpL_region (S:=Kept y3) [27] (by kernel_rfl) (Kept.drew y3) (fun hS0=>?_)
   refine tla 0 44 ?_
   refine tla 1 45 ?_
   refine tla 2 46 ?_
   refine tla 3 47 ?_
   refine tla 4 48 ?_
   refine tla 5 49 ?_
   refine tla 6 50 ?_
   refine tla 7 51 ?_
   refine tla 8 52 ?_
   refine tla 9 53 ?_
   refine tla 10 54 ?_
   refine tla 11 55 ?_
   refine tla 12 56 ?_
   refine tla 13 57 ?_
   refine tla 14 58 ?_
   refine tla 15 59 ?_
   refine tla 16 60 ?_
   refine tla 17 61 ?_
   refine tla 18 62 ?_
   refine tla 19 63 ?_
   refine tla 20 64 ?_
   refine tla 21 65 ?_
   refine tla 22 66 ?_
   refine tla 23 67 ?_
   refine tla 24 68 ?_
   refine cl 25 69 fun K hK=>?_
   go_simp
   refine (part_any y3.drew k j1 j2 j3 j4 wx vx ch x.Ao x.no x.co HWX.out.1 HWX.out.2 HVX.out.1 HVX.out.2).mono ?_
   rw[HNO.out]
   rintro e z5 ⟨rfl,hz5⟩
   have hS1:Kept y3 z5:=hS0.below (Nat.le_refl _) hz5
   have HZ5:Hid (Below y3.heap.size y3 z5):=hide (below_undrew hz5)
   have hsy5:y3.heap.size≤z5.heap.size:=hz5.size
   clear hz5
   go_wp2_with fail
   refine hK.out _ _ hS1 (fun hSn=>?_)
   clear hK K
   try simp only[zqd,zqe,zqf]
   refine cl 26 70 fun K hK=>?_
   go_simp
   refine (join_any z5 k j1 j2 j3 j4 _ _ _ _ (totV_bd k es was vals chs HV.out.2.2 i).1 (totV_bd k es was vals chs HV.out.2.2 i).2 (partT_bd k wx vx ch (fromF es i).length HVX.out).1 (partT_bd k wx vx ch (fromF es i).length HVX.out).2).mono ?_
   rw[←HTV.out]
   rintro e z6 ⟨rfl,hz6⟩
   have hS2:Kept y3 z6:=hS1.below hsy5 hz6
   have HZ6:=hide (HZ5.out.trans (hz6.mono hsy5))
   have hsy6:y3.heap.size≤z6.heap.size:=HZ6.out.size
   clear hz6
   go_wp2_with fail
   refine hK.out _ _ hS2 (fun hSn=>?_)
   clear hK K
   try simp only[zqd,zqe,zqf]
   refine xl 27 fun K hK=>?_
   have T6:z6.heap[w.heap.size+2]?=some (.cells #[.int .i64 (totV k es was vals chs i).1,.int .i64 (totV k es was vals chs i).2] 165):=(HZ6.out.block _ (by omega)).trans ((HQ3.out (w.heap.size+2) (by omega)).trans HM.out.2.2)
   have zq:=zf T6;have f0:=zq 0;have f1:=zq 1;clear zq
   go_wp2_with fail
   refine hK.out _ _ ?_
   clear hK K
   try simp only[zqd,zqe,zqf]
   refine wpAnyL_done (by kernel_rfl) ?_ _
   clear hS0 hSn hS1 hS2 f0 f1 k0 d0 d1 d2 d3 d4 s1 s2 e0 e1 e2 t0 t1
   obtain⟨y4,hy4⟩:∃q,(z6.setCell ⟨w.heap.size+1+1,0,none⟩ (.int .i64 (totV k es was vals chs (i+1)).1)).setCell ⟨w.heap.size+1+1,1,none⟩ (.int .i64 (totV k es was vals chs (i+1)).2)=q:=⟨_,rfl⟩
   have HM4:=hide ((((HM3.out.next HZ6.out).set (b:=w.heap.size+1+1) (j:=0) (u:=.int .i64 (totV k es was vals chs (i+1)).1) (by omega)).set (b:=w.heap.size+1+1) (j:=1) (u:=.int .i64 (totV k es was vals chs (i+1)).2) (by omega)))
   have HB4:=hide (((HB3.out.trans (HZ6.out.mono HB3.out.size)).setCell (p:=⟨w.heap.size+1+1,0,none⟩) (by show w.heap.size≤w.heap.size+1+1;omega) (.int .i64 (totV k es was vals chs (i+1)).1)).setCell (p:=⟨w.heap.size+1+1,1,none⟩) (by show w.heap.size≤w.heap.size+1+1;omega) (.int .i64 (totV k es was vals chs (i+1)).2))
   have HT4:=hide (set_pair (x0:=.int .i64 (totV k es was vals chs (i+1)).1) (x1:=.int .i64 (totV k es was vals chs (i+1)).2) T6)
   have HQ4:=hide (show ∀q,q<w.heap.size+2→((z6.setCell ⟨w.heap.size+1+1,0,none⟩ (.int .i64 (totV k es was vals chs (i+1)).1)).setCell ⟨w.heap.size+1+1,1,none⟩ (.int .i64 (totV k es was vals chs (i+1)).2)).heap[q]?=u.heap[q]? from fun q hq=>(Below.heap_setCell _ _ _ q (by show q≠w.heap.size+1+1;omega)).trans ((Below.heap_setCell _ _ _ q (by show q≠w.heap.size+1+1;omega)).trans ((HZ6.out.block q (by omega)).trans ((HQ3.out q (by omega)).trans (HM.out.2.1 q hq)))))
   have HS4:=hide (show u.heap.size≤((z6.setCell ⟨w.heap.size+1+1,0,none⟩ (.int .i64 (totV k es was vals chs (i+1)).1)).setCell ⟨w.heap.size+1+1,1,none⟩ (.int .i64 (totV k es was vals chs (i+1)).2)).heap.size by rw[World.size_setCell,World.size_setCell];omega)
   rw[hy4] at HM4 HB4 HT4 HQ4 HS4 ⊢
   rw[HRVs2.out,←rowsV_succ] at HM4
   clear hy4 T6
   go_wp2
   go_roundw
   case rel=>exact⟨i+1,A5,c5,by omega,by go_num,rfl,HM4,HB4,hide ⟨HS4.out,HQ4.out,HT4.out⟩⟩
   case measure=>simp[intOf];omega
  obtain rfl:i=V:=by omega
  have HH:=hide (HMH.out.next HBr.out)
  have GM:=HH.out.mem
  have d0:wr.cell? ⟨m,2,none⟩=some (.int .u8 k):=cell_of_row _ _ 2 _ _ _ GM
  have d1:wr.cell? ⟨m,3,none⟩=some (.int .i64 j1):=cell_of_row _ _ 3 _ _ _ GM
  have d2:wr.cell? ⟨m,4,none⟩=some (.int .i64 j2):=cell_of_row _ _ 4 _ _ _ GM
  have d3:wr.cell? ⟨m,5,none⟩=some (.int .i64 j3):=cell_of_row _ _ 5 _ _ _ GM
  have d4:wr.cell? ⟨m,6,none⟩=some (.int .i64 j4):=cell_of_row _ _ 6 _ _ _ GM
  have d8:wr.cell? ⟨m,8,none⟩=some (.slice Aow i cow):=cell_of_row _ _ 8 _ _ _ GM
  have HG0:=hide ((HM.out.2.1 w.heap.size (by omega)).trans HU.out.2.2.1)
  have HG1:=hide ((HM.out.2.1 (w.heap.size+1) (by omega)).trans HU.out.2.2.2.1)
  have HT:=hide HM.out.2.2
  clear GM
  have hmr:m<wr.heap.size:=by omega
  go_upto_region 9 with fail
  refine wpL_region (S:=Kept wr) [11] (by kernel_rfl) (Kept.drew wr) (fun hS0=>?_)
  refine tla 0 72 ?_
  refine tla 1 73 ?_
  refine tla 2 74 ?_
  refine tla 3 75 ?_
  refine tla 4 76 ?_
  refine tla 5 77 ?_
  refine tla 6 78 ?_
  refine tla 7 79 ?_
  refine tla 8 80 ?_
  refine cl 9 81 fun K hK=>?_
  go_simp
  refine (merge_any wr.drew k j1 j2 j3 j4 Aow Ar (ownL i) (rowsV k es vals chs i) i i cow cr (ownL_len i) (by omega) HH.out.own (ownL_bd (by omega)) (rowsV_len k es vals chs i) (by omega) HMr.out.rows (rowsV_bd hEB HV.out.2.2) (by have h:=rowsV_flat k es vals chs i;rw[HL.out] at h;have h2:i*(2*L)≤512*(2*80):=Nat.mul_le_mul (by omega) (by omega);omega)).mono ?_
  rintro e z ⟨Ai2,ci2,he,hrd,hbz,hnew⟩
  rw[show (mails k (rowsV k es vals chs i).flatten (ownL i)).length=i by simp[mails,ownL]] at he
  subst he
  have hS1:Kept wr z:=hS0.below (Nat.le_refl _) hbz
  have HRD:=hide hrd
  have HBZ:Hid (Below wr.heap.size wr z):=hide (below_undrew hbz)
  have HNW0:Hid (NewA wr.heap.size Ai2):=hide hnew
  have HNW:=hide (HNW0.out.mono (show w.heap.size≤wr.heap.size by omega))
  have szz:wr.heap.size≤z.heap.size:=hbz.size
  clear hrd hbz hnew
  go_wp2_with fail
  refine hK.out _ _ hS1 (fun hSn=>?_)
  clear hK K
  try simp only[zqd,zqe,zqf]
  refine tla 10 82 ?_
  refine xl 11 fun K hK=>?_
  have q0:z.heap[w.heap.size]?=some (.cells #[.int .i64 st,.slice Av i cv,.slice Ac i cc,.slice Ai ni ci,.int .i64 sm,.int .i64 mo] 33):=(HBZ.out.block w.heap.size (by omega)).trans HG0.out
  have Q0:=hide q0
  have r3:z.cell? ⟨w.heap.size,3,none⟩=some (.slice Ai ni ci):=cell_of_row _ _ 3 _ _ _ q0
  have f3:=zf q0 3
  clear q0
  go_wp2_with fail
  refine hK.out _ _ ?_
  clear hK K
  try simp only[zqd,zqe,zqf]
  refine wpAnyL_done (by kernel_rfl) ?_ _
  clear hS0 hSn hS1 d0 d1 d2 d3 d4 d8 r3 f3
  obtain⟨z1,hz1⟩:∃q,z.setCell ⟨w.heap.size,3,none⟩ (.slice Ai2 i ci2)=q:=⟨_,rfl⟩
  have Q1:=hide (set_at3 (x:=.slice Ai2 i ci2) Q0.out)
  have FS1:=hide (FarS.set (FarS.refl w.heap.size w.heap.size z) (p:=⟨w.heap.size,3,none⟩) (Or.inl rfl) (.slice Ai2 i ci2))
  rw[hz1] at Q1 FS1 ⊢
  clear hz1
  have szz1:z1.heap.size=z.heap.size:=FS1.out.size
  have szz2:z.heap.size≤z1.heap.size:=by omega
  clear szz1
  have Q4:=hide ((FS1.out.block (w.heap.size+2) (by omega) (by omega)).trans ((HBZ.out.block (w.heap.size+2) (by omega)).trans HT.out))
  obtain⟨t0,t1⟩:=zr2 Q4.out
  have zz2:w.heap.size+1+1<z1.heap.size:=by omega
  have zz1:w.heap.size<z1.heap.size:=by omega
  have r4:z1.drew.cell? ⟨w.heap.size,4,none⟩=some (.int .i64 sm):=cell_of_row _ _ 4 _ _ _ Q1.out
  have r5:z1.drew.cell? ⟨w.heap.size,5,none⟩=some (.int .i64 mo):=cell_of_row _ _ 5 _ _ _ Q1.out
  have zq:=zf Q1.out;have f4:=zq 4;have f5:=zq 5;clear zq
  go_upto_region 10 with fail
  refine wpL_region (S:=(fun w'=>w'.cell? ⟨w.heap.size+1+1,0,none⟩=some (.int .i64 (totV k es was vals chs i).1)∧w'.cell? ⟨w.heap.size+1+1,1,none⟩=some (.int .i64 (totV k es was vals chs i).2))) [7] (by kernel_rfl) ⟨t0,t1⟩ (fun hS0=>?_)
  refine tla 0 83 ?_
  refine tla 1 84 ?_
  refine tla 2 85 ?_
  refine tla 3 86 ?_
  refine tla 4 87 ?_
  refine stL_at (i:=5) (by simp only[zqa,zqb,zqc];rfl) (by kernel_rfl) rfl (fun K hK=>?_)
  go_wp2_with fail
  refine hK.out _ _ ⟨(World.cell?_of_block (Below.heap_setCell _ _ _ _ (by show w.heap.size+1+1≠w.heap.size;omega))).trans hS0.1,(World.cell?_of_block (Below.heap_setCell _ _ _ _ (by show w.heap.size+1+1≠w.heap.size;omega))).trans hS0.2⟩ (fun hSn=>?_)
  clear hK K
  try simp only[zqd,zqe,zqf]
  refine tla 6 88 ?_
  refine xl 7 fun K hK=>?_
  obtain⟨w2,hw2⟩:∃q,(z1.setCell ⟨w.heap.size,4,none⟩ (.int .i64 (totV k es was vals chs i).1)).drew=q:=⟨_,rfl⟩
  rw[hw2]
  have Q2:Hid (w2.heap[w.heap.size]?=some (.cells #[.int .i64 st,.slice Av i cv,.slice Ac i cc,.slice Ai2 i ci2,.int .i64 (totV k es was vals chs i).1,.int .i64 mo] 33)):=hide (by rw[←hw2];exact set_at4 (x:=.int .i64 (totV k es was vals chs i).1) Q1.out)
  have FS2:Hid (FarS w.heap.size w.heap.size z1 w2):=hide (by rw[←hw2];exact (FarS.set (FarS.refl w.heap.size w.heap.size z1) (p:=⟨w.heap.size,4,none⟩) (Or.inl rfl) (.int .i64 (totV k es was vals chs i).1)).drew)
  have r5b:w2.cell? ⟨w.heap.size,5,none⟩=some (.int .i64 mo):=cell_of_row _ _ 5 _ _ _ Q2.out
  have f5b:=zf Q2.out 5
  clear hw2
  go_wp2_with fail
  refine hK.out _ _ ?_
  clear hK K
  try simp only[zqd,zqe,zqf]
  refine wpAnyL_done (by kernel_rfl) ?_ _
  clear hS0 hSn r5b f5b t0 t1 r4 r5 f4 f5
  obtain⟨w3,hw3⟩:∃q,w2.setCell ⟨w.heap.size,5,none⟩ (.int .i64 (totV k es was vals chs i).2)=q:=⟨_,rfl⟩
  have Q3:=hide (set_at5 (x:=.int .i64 (totV k es was vals chs i).2) Q2.out)
  have FS3:=hide (FarS.set FS2.out (p:=⟨w.heap.size,5,none⟩) (Or.inl rfl) (.int .i64 (totV k es was vals chs i).2))
  rw[hw3] at Q3 FS3 ⊢
  clear hw3
  have Q6:=hide ((HBZ.out.block (w.heap.size+1) (by omega)).trans HG1.out)
  have FA:Hid (FarS w.heap.size w.heap.size z w3):=hide (FS1.out.trans FS3.out)
  have Q7:=hide ((FA.out.block (w.heap.size+1) (by omega) (by omega)).trans Q6.out)
  have sz3:w3.heap.size=z.heap.size:=FA.out.size
  have sz4:w.heap.size+1<w3.heap.size:=by omega
  clear sz3
  obtain⟨s0,s1,s2,s3,s4,s5⟩:=zr6 Q3.out
  obtain⟨q0,q1,q2,q3,q4,q5⟩:=zr6 Q7.out
  have zq:=zf Q7.out;have f0:=zq 0;have f1:=zq 1;have f2:=zq 2;have f3:=zq 3;have f4:=zq 4;have f5:=zq 5;clear zq
  go_wp2
  obtain⟨wf,hwf⟩:∃q,(((((w3.setCell ⟨w.heap.size+1,0,none⟩ (.int .i64 st)).setCell ⟨w.heap.size+1,1,none⟩ (.slice Av i cv)).setCell ⟨w.heap.size+1,2,none⟩ (.slice Ac i cc)).setCell ⟨w.heap.size+1,3,none⟩ (.slice Ai2 i ci2)).setCell ⟨w.heap.size+1,4,none⟩ (.int .i64 (totV k es was vals chs i).1)).setCell ⟨w.heap.size+1,5,none⟩ (.int .i64 (totV k es was vals chs i).2)=q:=⟨_,rfl⟩
  have hF:=far6 w3 (w.heap.size+1) (w.heap.size+1) (.int .i64 st) (.slice Av i cv) (.slice Ac i cc) (.slice Ai2 i ci2) (.int .i64 (totV k es was vals chs i).1) (.int .i64 (totV k es was vals chs i).2) Q7.out
  rw[hwf] at hF ⊢
  obtain⟨FF,HR⟩:=hF
  obtain⟨y0,y1,y2,y3,y4,y5⟩:=cells6 HR
  clear hwf HR
  exact bodyPost_ret (v:=.agg #[.int .i64 st,.slice Av i cv,.slice Ac i cc,.slice Ai2 i ci2,.int .i64 (totV k es was vals chs i).1,.int .i64 (totV k es was vals chs i).2]) (by simp[results,Tryz.results73,go_sem,y0,y1,y2,y3,y4,y5]) rfl ⟨Ai2,ci2,rfl,FF.rd (FA.out.rd HRD.out HNW0.out (by omega) (by omega)) HNW0.out (by omega) (by omega),((HBr.out.trans (HBZ.out.mono HBr.out.size)).trans (FA.out.below (by omega) (by omega))).trans (FF.below (by omega) (by omega)),HNW.out⟩
end Go.Proofs.YtpojjmbalgmcoaaGreat
namespace Go.Proofs.YtpojjmbalgmcoaaGreat
open Go.RowKit
theorem boxF_bd {k:Int}:∀{l:List Ms},msB l→∀v x,boxF k l v=some x→i64V x:=by
 suffices h:∀(l:List Ms) (f:Int→Option Int),msB l→(∀v x,f v=some x→i64V x)→∀v x,l.foldl (addB k) f v=some x→i64V x from fun {l} hl=>h l _ hl (fun v x hv=>by cases hv)
 intro l
 induction l with
 | nil=>intro f _ hf v x hv;exact hf v x hv
 | cons m l ih=>
  intro f hl hf
  refine ih _ (fun y hy=>hl y (List.mem_cons_of_mem _ hy)) (fun v x hv=>?_)
  have hm:=(hl m (List.mem_cons_self ..)).2
  unfold addB bxPut at hv
  split at hv
  ·injection hv with hv
   subst hv
   cases hq:f m.1 with
   | some y=>exact comb_bd (hf _ _ hq) hm
   | none=>exact hm
  exact hf v x hv
theorem mails_bd {k:Int} {l:List Ms} {own:List Int} (h:msB l):∀m∈mails k l own,i64V m.2:=fun m hm=>by
 obtain⟨v,_,rfl⟩:=List.mem_map.1 hm
 cases hq:boxF k l v with
 | none=>simp[mlOf,i64V]
 | some x=>exact boxF_bd h v x hq
theorem takeK_bd (V d g s:Int):i64V (takeK V d g s):=by
 unfold takeK i64V
 split
 ·omega
 rename_i h
 split
 ·have h1:=mulF_b d.toNat (dadd g (s.tdiv V)).toNat
  have h2:0≤(4294967296-d).tdiv V:=Int.tdiv_nonneg (by omega) (by omega)
  have h3:(4294967296-d).tdiv V≤4294967296-d:=by
   rw[Int.tdiv_eq_ediv_of_nonneg (by omega)]
   exact Int.ediv_le_self _ (by omega)
  omega
 omega
theorem compK_bd {k V v:Int} {has:Bool} {x su d:Int} (hv:i64V v) (hx:i64V x):i64V (compK k V v has x su d).1:=by
 unfold compK
 split
 ·exact takeK_bd _ _ _ _
 split
 ·unfold ltakeOf
  split
  ·exact hx
  exact hv
 split
 ·unfold takeOf
  split
  ·unfold i64V at *
   dsimp only
   omega
  exact hv
 simp[i64V]
theorem startA_bd {k j2 V:Int} {v:Nat} (hv:v≤1000):i64V (startA k j2 V (v:Int)).1:=by
 unfold startA
 split
 ·exact evenF_bd (by simp[i64V])
 split
 ·unfold i64V
  dsimp only
  omega
 split
 ·unfold startOf i64V
  dsimp only
  split <;> omega
 simp[i64V]
def tellV (k:Int) (es:List Ed) (was vals:List Int) (chs:List Bool) (V:Nat) (st:Int):SV:=⟨st,vals,chs,toldM k es vals chs V,(totV k es was vals chs V).1,(totV k es was vals chs V).2⟩
def startVals (k j2:Int) (V n:Nat):List Int:=(List.range n).map fun (v:Nat)=>(startA k j2 V (v:Int)).1
def startChs (k j2:Int) (V n:Nat):List Bool:=(List.range n).map fun (v:Nat)=>(startA k j2 V (v:Int)).2
def startV (k j2:Int) (es:List Ed) (V:Nat):SV:={ tellV k es (startVals k j2 V V) (startVals k j2 V V) (startChs k j2 V V) V 0 with mo:=0 }
def compV (k j3:Int) (V:Nat) (s:SV) (v:Nat):Int×Bool:=compK k V (s.vals.getD v 0) (s.inb.getD v (false,0)).1 (s.inb.getD v (false,0)).2 s.sm j3
def nextVals (k j3:Int) (V:Nat) (s:SV) (n:Nat):List Int:=(List.range n).map fun v=>(compV k j3 V s v).1
def nextChs (k j3:Int) (V:Nat) (s:SV) (n:Nat):List Bool:=(List.range n).map fun v=>(compV k j3 V s v).2
def nextV (k j3:Int) (es:List Ed) (V:Nat) (s:SV):SV:=tellV k es s.vals (nextVals k j3 V s V) (nextChs k j3 V s V) V (s.st+1)
structure OkS (V:Nat) (s:SV):Prop where
 lv:s.vals.length=V
 lc:s.chg.length=V
 li:s.inb.length=V
 bv:∀x∈s.vals,i64V x
 bi:∀m∈s.inb,i64V m.2
 bs:i64V s.sm
theorem tellV_ok {k:Int} {es:List Ed} {was vals:List Int} {chs:List Bool} {V:Nat} {st:Int} (he:edsB es) (h1:vals.length=V) (h2:chs.length=V) (hv:∀x∈vals,i64V x):OkS V (tellV k es was vals chs V st):=
 ⟨h1,h2,by simp[tellV,toldM,mails,ownL],hv,mails_bd (rowsV_bd he hv),(totV_bd k es was vals chs hv V).1⟩
theorem startVals_bd {k j2:Int} {V n:Nat} (h:n≤1000):∀x∈startVals k j2 V n,i64V x:=fun x hx=>by
 obtain⟨v,hv,rfl⟩:=List.mem_map.1 hx
 have:=List.mem_range.1 hv
 exact startA_bd (by omega)
theorem startV_ok {k j2:Int} {es:List Ed} {V:Nat} (hV:V≤1000) (he:edsB es):OkS V (startV k j2 es V):=by
 have h:=tellV_ok (k:=k) (was:=startVals k j2 V V) (st:=0) he (by simp[startVals]:(startVals k j2 V V).length=V) (by simp[startChs]:(startChs k j2 V V).length=V) (startVals_bd hV)
 exact⟨h.lv,h.lc,h.li,h.bv,h.bi,h.bs⟩
theorem getD_mail_bd {l:List Ml} (h:∀m∈l,i64V m.2) (v:Nat):i64V (l.getD v (false,0)).2:=by
 by_cases hv:v<l.length
 ·rw[List.getD_eq_getElem?_getD,List.getElem?_eq_getElem hv];exact h _ (List.getElem_mem hv)
 rw[List.getD_eq_getElem?_getD,List.getElem?_eq_none (by omega)];simp[i64V]
theorem nextVals_bd {k j3:Int} {V n:Nat} {s:SV} (h:OkS V s):∀x∈nextVals k j3 V s n,i64V x:=fun x hx=>by
 obtain⟨v,_,rfl⟩:=List.mem_map.1 hx
 exact compK_bd (getD_bd h.bv v) (getD_mail_bd h.bi v)
theorem nextV_ok {k j3:Int} {es:List Ed} {V:Nat} {s:SV} (he:edsB es) (h:OkS V s):OkS V (nextV k j3 es V s):=
 tellV_ok he (by simp[nextVals]) (by simp[nextChs]) (nextVals_bd h)
theorem nextV_st (k j3:Int) (es:List Ed) (V:Nat) (s:SV):(nextV k j3 es V s).st=s.st+1:=rfl
def atV (k j2 j3:Int) (es:List Ed) (V:Nat):Nat→SV
 | 0=>startV k j2 es V
 | n+1=>nextV k j3 es V (atV k j2 j3 es V n)
theorem atV_st (k j2 j3:Int) (es:List Ed) (V:Nat):∀n,(atV k j2 j3 es V n).st=(n:Int)
 | 0=>rfl
 | n+1=>by rw[atV,nextV_st,atV_st k j2 j3 es V n];rfl
theorem atV_ok {k j2 j3:Int} {es:List Ed} {V:Nat} (hV:V≤1000) (he:edsB es):∀n,OkS V (atV k j2 j3 es V n)
 | 0=>startV_ok hV he
 | n+1=>nextV_ok he (atV_ok hV he n)
end Go.Proofs.YtpojjmbalgmcoaaGreat

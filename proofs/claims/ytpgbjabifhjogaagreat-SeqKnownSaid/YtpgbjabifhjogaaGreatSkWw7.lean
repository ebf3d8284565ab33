/- Lemmas: Asv, Sen, Sso. -/
import Derived.Deep.DeepCutAuto
import Derived.Lib.Hide
import Derived.WalkSpells
import Derived.WalkMore
import Derived.IntWalk
import Derived.Test.YtpgbjabifhjogaaGreatSkWw5
set_option linter.unusedVariables false
set_option linter.unusedSimpArgs false
set_option maxRecDepth 100000
set_option maxHeartbeats 16000000
namespace Go.Proofs.YtpgbjabifhjogaaGreat
open Go.RowKit
theorem done_any (w:World) (k j1 j2 j3 j4 st mo:Int):Calls Tryz.prog 28 #[.agg #[.int .u8 k,.int .i64 j1,.int .i64 j2,.int .i64 j3,.int .i64 j4],.int .i64 st,.int .i64 mo] w fun e w'=>e = .returned (.bool (doneF k j1 j4 st mo))∧Below w.heap.size w w':=by
 obtain⟨u,hu⟩:∃u,w.alloc (.cells #[.int .u8 k,.int .i64 j1,.int .i64 j2,.int .i64 j3,.int .i64 j4] 26)=u:=⟨_,rfl⟩
 have hzu:w.heap.size<u.heap.size:=by rw[←hu];simp
 have hbu:=hide (show Below w.heap.size w u by rw[←hu];exact (Below.refl _ _).alloc (Nat.le_refl _) _)
 have M0:=hide (show u.heap[w.heap.size]?=some (.cells #[.int .u8 k,.int .i64 j1,.int .i64 j2,.int .i64 j3,.int .i64 j4] 26) by rw[←hu];exact heap_alloc_last _ _)
 by_cases k1:k=1
 ·subst k1
  have HU:=hide hu
  clear hu
  have N0:=((Below.refl u.heap.size u).block _ hzu).trans M0.out
  obtain⟨c0,c1,c2,c3,c4⟩:=zr5 N0
  clear N0
  go_enter Tryz.func28,Tryz.ntmps28
  go_wp2_with fail
  rw[HU.out]
  refine (shares_any _ 1 j1 j2 j3 j4).mono ?_
  rintro e w1 ⟨rfl,hb⟩
  have HB:=hide hb
  clear c0 c1 c2 c3 c4
  have N0:=(hb.block _ hzu).trans M0.out
  obtain⟨c0,c1,c2,c3,c4⟩:=zr5 N0
  clear N0
  clear hb
  go_wp2
  all_goals
   go_ret
   refine⟨?_,hbu.out.trans (HB.out.mono (by omega))⟩
   first | (refine ret_b ?_;simp_all [doneF];done) | (refine ret_b ?_;simp[doneF];omega) | (simp_all [doneF];done) | (simp[doneF];omega)
 by_cases k2:k=2
 ·subst k2
  have HU:=hide hu
  clear hu
  have N0:=((Below.refl u.heap.size u).block _ hzu).trans M0.out
  obtain⟨c0,c1,c2,c3,c4⟩:=zr5 N0
  clear N0
  go_enter Tryz.func28,Tryz.ntmps28
  go_wp2_with fail
  rw[HU.out]
  refine (shares_any _ 2 j1 j2 j3 j4).mono ?_
  rintro e w1 ⟨rfl,hb⟩
  have HB:=hide hb
  clear c0 c1 c2 c3 c4
  have N0:=(hb.block _ hzu).trans M0.out
  obtain⟨c0,c1,c2,c3,c4⟩:=zr5 N0
  clear N0
  clear hb
  go_wp2
  all_goals
   go_ret
   refine⟨?_,hbu.out.trans (HB.out.mono (by omega))⟩
   first | (refine ret_b ?_;simp_all [doneF];done) | (refine ret_b ?_;simp[doneF];omega) | (simp_all [doneF];done) | (simp[doneF];omega)
 by_cases k3:k=3
 ·subst k3
  have HU:=hide hu
  clear hu
  have N0:=((Below.refl u.heap.size u).block _ hzu).trans M0.out
  obtain⟨c0,c1,c2,c3,c4⟩:=zr5 N0
  clear N0
  go_enter Tryz.func28,Tryz.ntmps28
  go_wp2_with fail
  rw[HU.out]
  refine (shares_any _ 3 j1 j2 j3 j4).mono ?_
  rintro e w1 ⟨rfl,hb⟩
  have HB:=hide hb
  clear c0 c1 c2 c3 c4
  have N0:=(hb.block _ hzu).trans M0.out
  obtain⟨c0,c1,c2,c3,c4⟩:=zr5 N0
  clear N0
  clear hb
  go_wp2
  all_goals
   go_ret
   refine⟨?_,hbu.out.trans (HB.out.mono (by omega))⟩
   first | (refine ret_b ?_;simp_all [doneF];done) | (refine ret_b ?_;simp[doneF];omega) | (simp_all [doneF];done) | (simp[doneF];omega)
 obtain⟨hk1,hk2,hk3⟩:decide (k=1)=false∧decide (k=2)=false∧decide (k=3)=false:=by simp[k1,k2,k3]
 have HU:=hide hu
 clear hu
 have N0:=((Below.refl u.heap.size u).block _ hzu).trans M0.out
 obtain⟨c0,c1,c2,c3,c4⟩:=zr5 N0
 clear N0
 go_enter Tryz.func28,Tryz.ntmps28
 go_wp2_with fail
 rw[HU.out]
 refine (shares_any _ k j1 j2 j3 j4).mono ?_
 rintro e w1 ⟨rfl,hb⟩
 have HB:=hide hb
 clear c0 c1 c2 c3 c4
 have N0:=(hb.block _ hzu).trans M0.out
 obtain⟨c0,c1,c2,c3,c4⟩:=zr5 N0
 clear N0
 clear hb
 rw[hk1,hk2,hk3]
 go_wp2
 all_goals
  go_ret
  refine⟨?_,hbu.out.trans (HB.out.mono (by omega))⟩
  first | (refine ret_b ?_;simp_all [doneF];done) | (refine ret_b ?_;simp[doneF];omega) | (simp_all [doneF];done) | (simp[doneF];omega)
theorem rdone_any (w:World) (k j1 j2 j3 j4 st mo:Int):Calls Tryz.prog 46 #[.agg #[.int .u8 k,.int .i64 j1,.int .i64 j2,.int .i64 j3,.int .i64 j4],.int .i64 st,.int .i64 mo] w fun e w'=>e = .returned (.bool (doneF k j1 j4 st mo))∧Below w.heap.size w w':=by
 obtain⟨u,hu⟩:∃u,w.alloc (.cells #[.int .u8 k,.int .i64 j1,.int .i64 j2,.int .i64 j3,.int .i64 j4] 26)=u:=⟨_,rfl⟩
 have hzu:w.heap.size<u.heap.size:=by rw[←hu];simp
 have hbu:=hide (show Below w.heap.size w u by rw[←hu];exact (Below.refl _ _).alloc (Nat.le_refl _) _)
 have M0:=hide (show u.heap[w.heap.size]?=some (.cells #[.int .u8 k,.int .i64 j1,.int .i64 j2,.int .i64 j3,.int .i64 j4] 26) by rw[←hu];exact heap_alloc_last _ _)
 by_cases k1:k=1
 ·subst k1
  have HU:=hide hu
  clear hu
  have N0:=((Below.refl u.heap.size u).block _ hzu).trans M0.out
  obtain⟨c0,c1,c2,c3,c4⟩:=zr5 N0
  clear N0
  go_enter Tryz.func46,Tryz.ntmps46
  go_upto_region 1 with fail
  rw[HU.out]
  go_wp2
  all_goals
   go_ret
   refine⟨?_,hbu.out.trans (Below.refl _ _)⟩
   first | (refine ret_b ?_;simp_all [doneF];done) | (refine ret_b ?_;simp[doneF];omega) | (simp_all [doneF];done) | (simp[doneF];omega)
 by_cases k2:k=2
 ·subst k2
  have HU:=hide hu
  clear hu
  have N0:=((Below.refl u.heap.size u).block _ hzu).trans M0.out
  obtain⟨c0,c1,c2,c3,c4⟩:=zr5 N0
  clear N0
  go_enter Tryz.func46,Tryz.ntmps46
  go_upto_region 1 with fail
  rw[HU.out]
  go_wp2
  all_goals
   go_ret
   refine⟨?_,hbu.out.trans (Below.refl _ _)⟩
   first | (refine ret_b ?_;simp_all [doneF];done) | (refine ret_b ?_;simp[doneF];omega) | (simp_all [doneF];done) | (simp[doneF];omega)
 by_cases k3:k=3
 ·subst k3
  have HU:=hide hu
  clear hu
  have N0:=((Below.refl u.heap.size u).block _ hzu).trans M0.out
  obtain⟨c0,c1,c2,c3,c4⟩:=zr5 N0
  clear N0
  go_enter Tryz.func46,Tryz.ntmps46
  go_upto_region 1 with fail
  rw[HU.out]
  go_wp2
  all_goals
   go_ret
   refine⟨?_,hbu.out.trans (Below.refl _ _)⟩
   first | (refine ret_b ?_;simp_all [doneF];done) | (refine ret_b ?_;simp[doneF];omega) | (simp_all [doneF];done) | (simp[doneF];omega)
 obtain⟨hk1,hk2,hk3⟩:decide (k=1)=false∧decide (k=2)=false∧decide (k=3)=false:=by simp[k1,k2,k3]
 have HU:=hide hu
 clear hu
 have N0:=((Below.refl u.heap.size u).block _ hzu).trans M0.out
 obtain⟨c0,c1,c2,c3,c4⟩:=zr5 N0
 clear N0
 go_enter Tryz.func46,Tryz.ntmps46
 go_upto_region 1 with fail
 rw[HU.out]
 go_wp2
 all_goals
  go_ret
  refine⟨?_,hbu.out.trans (Below.refl _ _)⟩
  first | (refine ret_b ?_;simp_all [doneF];done) | (refine ret_b ?_;simp[doneF];omega) | (simp_all [doneF];done) | (simp[doneF];omega)
theorem taker_ways (w:World):(Instr.typeAssert (.iface 117 (.agg #[])) 71 135 false).run Tryz.prog w = .ok (.iface 117 (.agg #[])) w:=by kernel_rfl
theorem wytake_any (w:World) (v:Int) (has:Bool) (x:Int):Calls Tryz.prog 181 #[.agg #[],.int .i64 v,.agg #[.bool has,.int .i64 x]] w fun e w'=>e = .returned (.tuple #[.int .i64 (takeOf v has x).1,.bool (takeOf v has x).2])∧Below w.heap.size w w':=by
 have hbu:=hide (show Below w.heap.size w ((w.alloc (.cells #[] 117)).alloc (.cells #[.bool has,.int .i64 x] 76)) from ((Below.refl _ _).alloc (Nat.le_refl _) _).alloc (by simp) _)
 go_enter Tryz.func181,Tryz.ntmps181
 go_wp2_with fail
 refine (take_any _ v has x).mono ?_
 rintro e w1 ⟨rfl,hb⟩
 have HB:=hide hb
 clear hb
 go_wp2
 exact bodyPost_ret (by simp[results,Tryz.results181,go_sem];try rfl) rfl ⟨rfl,hbu.out.trans (HB.out.mono (by simp;omega))⟩
theorem acomp3_any (w:World) (j1 j2 j3 j4 V v:Int) (has:Bool) (x su:Int):Calls Tryz.prog 73 #[.agg #[.int .u8 3,.int .i64 j1,.int .i64 j2,.int .i64 j3,.int .i64 j4],.int .i64 V,.int .i64 v,.agg #[.bool has,.int .i64 x],.int .i64 su] w fun e w'=>e = .returned (.tuple #[.int .i64 (takeOf v has x).1,.bool (takeOf v has x).2])∧Below w.heap.size w w':=by
 have ta:=taker_ways
 have ts:=sharer_ways
 obtain⟨u,hu⟩:∃u,(w.alloc (.cells #[.int .u8 3,.int .i64 j1,.int .i64 j2,.int .i64 j3,.int .i64 j4] 26)).alloc (.cells #[.bool has,.int .i64 x] 76)=u:=⟨_,rfl⟩
 have hzu:w.heap.size+1<u.heap.size:=by rw[←hu];simp
 have hbu:=hide (show Below w.heap.size w u by rw[←hu];exact ((Below.refl _ _).alloc (Nat.le_refl _) _).alloc (by simp) _)
 have M1:=hide (show u.heap[w.heap.size+1]?=some (.cells #[.bool has,.int .i64 x] 76) by rw[←hu];have h:=heap_alloc_last (w.alloc (.cells #[.int .u8 3,.int .i64 j1,.int .i64 j2,.int .i64 j3,.int .i64 j4] 26)) (.cells #[.bool has,.int .i64 x] 76);simpa using h)
 have M0:u.heap[w.heap.size]?=some (.cells #[.int .u8 3,.int .i64 j1,.int .i64 j2,.int .i64 j3,.int .i64 j4] 26):=by rw[←hu];exact heap_alloc_keep (heap_alloc_last _ _)
 obtain⟨c0,c1,c2,c3,c4⟩:=zr5 M0
 clear M0
 have HU:=hide hu
 clear hu
 go_enter Tryz.func73,Tryz.ntmps73
 go_wp2_with fail
 rw[HU.out]
 refine (of3 _ j1 j2 j3 j4).mono ?_
 rintro e ws ⟨rfl,hb⟩
 have HB:=hide hb
 clear c0 c1 c2 c3 c4
 have N1:=(hb.block _ hzu).trans M1.out
 obtain⟨x0,x1⟩:=zr2 N1
 clear N1
 have lw:w.heap.size+1<ws.heap.size:=Nat.lt_of_lt_of_le hzu hb.size
 clear hb
 go_upto_region 8 with fail
 refine wp_region_held_drew (S:=Kept ws) (by kernel_rfl) (Kept.drew ws) (fun hS0=>?_)
 refine tka 0 36 ?_
 refine tk 1 37 ?_ ?_ ?_;rotate_left;(focus (intro w hSw;have hh:=ta w;go_simp;(try with_reducible rfl);done));(try simp only[zqd,zqe,zqf])
 refine tka 2 38 ?_
 refine tka 3 39 ?_
 refine ck 4 40 fun K hK=>?_
 go_simp
 go_upon
 refine (wytake_any _ v has x).mono ?_
 rintro e z1 ⟨rfl,k1⟩
 have hS1:Kept ws z1:=hS0.below (by simp) k1
 have K1:=hide (below_dr k1)
 clear k1
 go_wp2_with fail
 refine hK.out _ _ hS1 (fun hSn=>?_)
 clear hK K
 try simp only[zqd,zqe,zqf]
 refine tka 5 41 ?_
 refine tka 6 42 ?_
 refine tka 7 10 ?_
 refine tka 8 11 ?_
 refine wpAnyH_done (by kernel_rfl) ?_ _
 go_wp2
 exact bodyPost_ret (by simp[results,Tryz.results73,go_sem];try rfl) rfl ⟨rfl,hbu.out.trans ((HB.out.trans (K1.out.mono HB.out.size)).mono (by omega))⟩
def msFlat (l:List Ms):List Value:=l.flatMap fun e=>[.int .i64 e.1,.int .i64 e.2]
theorem msFlat_len (es:List Ms):(msFlat es).length=es.length*2:=by
 induction es with
 | nil=>rfl
 | cons e es ih=>unfold msFlat at ih ⊢;rw[List.flatMap_cons,List.length_append,ih,List.length_cons];simp;omega
theorem msFlat_app (a b:List Ms):msFlat a ++ msFlat b=msFlat (a ++ b):=by simp[msFlat]
theorem msFlat_get {es:List Ms}:∀{i:Nat} {e:Ms},es[i]?=some e→∀j u,([.int .i64 e.1,.int .i64 e.2]:List Value)[j]?=some u→(msFlat es)[i*2+j]?=some u:=by
 induction es with
 | nil=>intro i e h;simp at h
 | cons x es ih=>
  intro i e h j u hu
  have hj:j<2:=by
   rcases Nat.lt_or_ge j 2 with h | h
   ·exact h
   rw[List.getElem?_eq_none (by simpa using h)] at hu;cases hu
  unfold msFlat
  rw[List.flatMap_cons]
  cases i with
  | zero=>
   simp only[List.getElem?_cons_zero,Option.some.injEq] at h
   subst h
   rw[List.getElem?_append_left (by simp;omega),Nat.zero_mul,Nat.zero_add]
   exact hu
  | succ i=>
   rw[List.getElem?_append_right (by simp;omega)]
   have:=ih (i:=i) (by simpa using h) j u hu
   unfold msFlat at this
   rw[←this]
   congr 1
   simp
   omega
theorem Mss.of_rd {w:World} {B:Nat} {A:Option Addr} {es:List Ms} (h:Rd w B A (msFlat es)):Mss w B A es:=fun hn=>by
 obtain⟨b,off,rfl,hb,hc⟩:=h (fun e=>hn (List.eq_nil_of_length_eq_zero (by have:=msFlat_len es;rw[e] at this;simp at this;omega)))
 refine⟨b,off,rfl,hb,fun i x hx=>⟨[.int .i64 x.1,.int .i64 x.2],rfl,rfl,fun j u hu=>hc _ _ (msFlat_get hx j u hu)⟩⟩
def rkMs (x:Int) (es:List Ed):List Ms:=es.map fun e=>(e.2.1,evenF x es.length)
def MsgPost (w:World) (l:List Ms) (e:Ending) (w':World):Prop:=∃A c,e = .returned (.slice A l.length c)∧w'.ownsRow w.heap.size 125 2 (.slice A l.length c) l.length (msFlat l)∧Below w.heap.size w w'
theorem rksend_any (w:World) (v x:Int) (ch:Bool) (A:Option Addr) (es:List Ed) (L c:Nat) (B:Value) (hL:es.length=L) (hE:Eds w w.heap.size A es) (hc:L≤8192) (hx:-9223372036854775808≤x∧x≤9223372036854775807) :
  Calls Tryz.prog 137 #[.agg #[],.int .i64 v,.int .i64 x,.bool ch,.slice A L c,B] w (MsgPost w (rkMs x es)):=by
 obtain⟨i0,hi0,hz0,hz1,hz2⟩:=info_parts (show (Tryz.prog.info? 125).map (fun i=>(i.zero,i.size,i.bytes))=some (some (.agg #[.int .i64 0,.int .i64 0]),2,16) by kernel_rfl)
 obtain⟨g,hg⟩:∃g,evenF x L=g:=⟨_,rfl⟩
 have HG:=hide hg
 have HMs:Hid (rkMs x es=es.map fun e=>(e.2.1,g)):=hide (by unfold rkMs;rw[hL,hg])
 have HL:=hide hL
 have HE0:=hide hE
 have HB:=hide ((Below.refl w.heap.size w).alloc (Nat.le_refl _) (.cells #[] 113))
 clear hL hE hg
 go_enter Tryz.func137,Tryz.ntmps137
 go_wp2
 go_loopw [13,18] (fun v13 v18 wr=>∃(k:Nat) (Am:Option Addr) (cm:Nat),k≤L∧v18 = .int .i64 k∧v13 = .slice Am k cm∧Hid (wr.ownsRow w.heap.size 125 2 (.slice Am k cm) k (msFlat ((es.map fun e=>(e.2.1,g)).take k)))∧Hid (Below w.heap.size w wr)) (fun _ v18 _=>L-(intOf v18).toNat)
 case atStart=>exact⟨0,none,0,by omega,rfl,rfl,hide (World.ownsRow_nil _ _ _ _),HB⟩
 case round=>
  obtain⟨k,Am,cm,hk,rfl,rfl,HOw,HBw⟩:=hrel
  have hsz:w.heap.size≤wr.heap.size:=HBw.out.size
  by_cases hlt:k<L
  ·obtain⟨⟨x0,y,z⟩,he⟩:∃e,es[k]?=some e:=⟨_,List.getElem?_eq_getElem (by rw[HL.out];exact hlt)⟩
   obtain⟨b,off,rfl,hbl,d0,d1,d2,d3,d4⟩:=HE0.out.get he
   have hlc (j:Nat):wr.cell? ⟨b,off+k*3+j,none⟩=w.cell? ⟨b,off+k*3+j,none⟩:=HBw.out.cell (p:=⟨b,off+k*3+j,none⟩) hbl
   have d0:=(hlc 0).trans d0
   have d1:=(hlc 1).trans d1
   have d2:=(hlc 2).trans d2
   dsimp only at d0 d1 d2 d3 d4
   rw[Nat.add_zero] at d0
   have HSN:Hid (msFlat ((es.map fun e=>(e.2.1,g)).take k) ++ [.int .i64 y,.int .i64 g]=msFlat ((es.map fun e=>(e.2.1,g)).take (k+1))):=hide (by
    rw[List.take_add_one,List.getElem?_map,he,←msFlat_app];rfl)
   have hI1:(k:Int)<(L:Int):=by omega
   have HD:=hide (And.intro d3 d4)
   clear he hlc d3 d4
   obtain⟨u,hu⟩:∃u,wr.alloc (.cells #[.int .i64 x0,.int .i64 y,.int .i64 z] 58)=u:=⟨_,rfl⟩
   have hzu:u.heap.size=wr.heap.size+1:=by rw[←hu];simp
   have N0:u.heap[wr.heap.size]?=some (.cells #[.int .i64 x0,.int .i64 y,.int .i64 z] 58):=by rw[←hu];exact heap_alloc_last _ _
   have HBU:Hid (Below w.heap.size w u):=hide (by rw[←hu];exact HBw.out.alloc hsz _)
   have HOU:Hid (u.ownsRow w.heap.size 125 2 (.slice Am k cm) k (msFlat ((es.map fun e=>(e.2.1,g)).take k))):=hide (by rw[←hu];exact HOw.out.alloc _)
   have HU:=hide hu
   clear hu HOw HBw
   go_upto_region 5 with fail
   rw[HU.out]
   have c1:u.cell? ⟨wr.heap.size,1,none⟩=some (.int .i64 y):=cell_of_row _ _ 1 _ _ _ N0
   have hl2:wr.heap.size<u.heap.size:=by omega
   have hszu:w.heap.size≤u.heap.size:=by omega
   have hcap:=own_cap HOU.out
   clear N0 hzu d0 d1 d2
   refine wpL_region (S:=Kept u) [9] (by kernel_rfl) (Kept.drew u) (fun hS0=>?_)
   refine tla 0 22 ?_
   refine twa 1 23 ?_
   refine tua [2,7,8,9,10] 2 24 ?_
   refine twa 3 25 ?_
   refine twa 4 26 ?_
   refine twa 5 27 ?_
   refine cl 6 28 fun K hK=>?_
   go_simp
   refine (rkgive_any _ x L hx).mono ?_
   rintro e z1 ⟨rfl,rfl⟩
   rw[HG.out]
   go_wp2_with fail
   refine hK.out _ _ hS0 (fun hSn=>?_)
   clear hK K
   try simp only[zqd,zqe,zqf]
   refine twa 7 29 ?_
   refine cl 8 30 fun K hK=>?_
   go_simp
   have hS1:Kept u (u.drew.alloc (.cells #[.int .i64 y,.int .i64 g] 125)):=fun p hp=>World.cell?_alloc_lt _ _ _ hp
   refine hK.out _ _ hS1 (fun hSn=>?_)
   clear hK K
   try simp only[zqd,zqe,zqf]
   refine xl 9 fun K hK=>?_
   refine op_app (.tmp 22) (.tmp 30) 92 rfl w.heap.size 125 i0 (.agg #[.int .i64 0,.int .i64 0]) 2 16 Tryz.underlying92 hi0 hz0 hz1 hz2 rfl (by decide) (.slice Am k cm) k _ rfl (HOU.out.drew.alloc _) (u.heap.size+1) (some ⟨u.heap.size,0,none⟩) 1 1 [.int .i64 y,.int .i64 g] rfl rfl (Rd.new _ _ _ _) (by simp[Value.oneCell']) (by unfold maxLen;omega) (by omega) (by simp;omega) ?_
   intro A' c' y3 own3 hg3 hat3
   rw[HSN.out] at own3
   have hb3:=hide (app_below ((HBU.out.drew).alloc (by show w.heap.size≤u.heap.size;omega) _) (HOU.out.drew.alloc _) hg3 (by simp;omega) (Nat.le_refl _))
   have HO3:=hide own3
   clear own3 hg3 hat3
   refine hK.out _ _ ?_
   clear hK K
   simp only[Act.put]
   try simp only[zqd,zqe,zqf]
   refine twa 10 13 ?_
   refine wpAnyL_done (by kernel_rfl) ?_ _
   clear hS0 hSn hS1
   go_wp2
   go_roundw
   case rel=>exact⟨k+1,A',c',by omega,by go_num,rfl,HO3,hb3⟩
   case measure=>simp[intOf];omega
  obtain rfl:k=L:=by omega
  have HFin:Hid (MsgPost w (rkMs x es) (.returned (.slice Am k cm)) wr):=hide (by
   have hl:(es.map fun e=>(e.2.1,g)).length=k:=by rw[List.length_map];exact HL.out
   refine⟨Am,cm,by rw[HMs.out,hl],?_,HBw.out⟩
   rw[HMs.out]
   have h:=HOw.out
   rw[List.take_of_length_le (by rw[hl];exact Nat.le_refl _)] at h
   rw[hl]
   exact h)
  go_wp2
  go_ret
  exact HFin.out
def wyMs (ch:Bool) (x:Int) (es:List Ed):List Ms:=if ch=true then es.map fun e=>(e.2.1,dadd x e.2.2) else []
theorem below_dr0' (B:Nat) (u:World):Below B u u.drew:=(Below.refl B u).drew
theorem wysend_any (w:World) (v x:Int) (ch:Bool) (A:Option Addr) (es:List Ed) (L c:Nat) (B:Value) (hL:es.length=L) (hE:Eds w w.heap.size A es) (hc:L≤8192) (hx:-9223372036854775808≤x∧x≤9223372036854775807) :
  Calls Tryz.prog 179 #[.agg #[],.int .i64 v,.int .i64 x,.bool ch,.slice A L c,B] w (MsgPost w (wyMs ch x es)):=by
 obtain⟨i0,hi0,hz0,hz1,hz2⟩:=info_parts (show (Tryz.prog.info? 125).map (fun i=>(i.zero,i.size,i.bytes))=some (some (.agg #[.int .i64 0,.int .i64 0]),2,16) by kernel_rfl)
 have HL:=hide hL
 have HE0:=hide hE
 have HB:=hide ((Below.refl w.heap.size w).alloc (Nat.le_refl _) (.cells #[] 117))
 cases ch
 ·have HFin:Hid (MsgPost w (wyMs false x es) (.returned (.slice none 0 0)) (w.alloc (.cells #[] 117))):=hide ⟨none,0,rfl,World.ownsRow_nil _ _ _ _,HB.out⟩
  go_enter Tryz.func179,Tryz.ntmps179
  go_wp2
  go_ret
  exact HFin.out
 have HMs:Hid (wyMs true x es=es.map fun e=>(e.2.1,dadd x e.2.2)):=hide rfl
 clear hL hE
 go_enter Tryz.func179,Tryz.ntmps179
 go_wp2
 go_loopw [13,20] (fun v13 v18 wr=>∃(k:Nat) (Am:Option Addr) (cm:Nat),k≤L∧v18 = .int .i64 k∧v13 = .slice Am k cm∧Hid (wr.ownsRow w.heap.size 125 2 (.slice Am k cm) k (msFlat ((es.map fun e=>(e.2.1,dadd x e.2.2)).take k)))∧Hid (Below w.heap.size w wr)) (fun _ v18 _=>L-(intOf v18).toNat)
 case atStart=>exact⟨0,none,0,by omega,rfl,rfl,hide (World.ownsRow_nil _ _ _ _),HB⟩
 case round=>
  obtain⟨k,Am,cm,hk,rfl,rfl,HOw,HBw⟩:=hrel
  have hsz:w.heap.size≤wr.heap.size:=HBw.out.size
  by_cases hlt:k<L
  ·obtain⟨⟨x0,y,z⟩,he⟩:∃e,es[k]?=some e:=⟨_,List.getElem?_eq_getElem (by rw[HL.out];exact hlt)⟩
   obtain⟨b,off,rfl,hbl,d0,d1,d2,d3,d4⟩:=HE0.out.get he
   have hlc (j:Nat):wr.cell? ⟨b,off+k*3+j,none⟩=w.cell? ⟨b,off+k*3+j,none⟩:=HBw.out.cell (p:=⟨b,off+k*3+j,none⟩) hbl
   have d0:=(hlc 0).trans d0
   have d1:=(hlc 1).trans d1
   have d2:=(hlc 2).trans d2
   dsimp only at d0 d1 d2 d3 d4
   rw[Nat.add_zero] at d0
   obtain⟨g,hg⟩:∃g,dadd x z=g:=⟨_,rfl⟩
   have HG:=hide hg
   have HSN:Hid (msFlat ((es.map fun e=>(e.2.1,dadd x e.2.2)).take k) ++ [.int .i64 y,.int .i64 g]=msFlat ((es.map fun e=>(e.2.1,dadd x e.2.2)).take (k+1))):=hide (by
    rw[List.take_add_one,List.getElem?_map,he,←msFlat_app,←hg];rfl)
   have hI1:(k:Int)<(L:Int):=by omega
   have HD:=hide (And.intro d3 d4)
   clear he hlc d3 d4 hg
   obtain⟨u,hu⟩:∃u,wr.alloc (.cells #[.int .i64 x0,.int .i64 y,.int .i64 z] 58)=u:=⟨_,rfl⟩
   have hzu:u.heap.size=wr.heap.size+1:=by rw[←hu];simp
   have N0:u.heap[wr.heap.size]?=some (.cells #[.int .i64 x0,.int .i64 y,.int .i64 z] 58):=by rw[←hu];exact heap_alloc_last _ _
   have HBU:Hid (Below w.heap.size w u):=hide (by rw[←hu];exact HBw.out.alloc hsz _)
   have HOU:Hid (u.ownsRow w.heap.size 125 2 (.slice Am k cm) k (msFlat ((es.map fun e=>(e.2.1,dadd x e.2.2)).take k))):=hide (by rw[←hu];exact HOw.out.alloc _)
   have HU:=hide hu
   clear hu HOw HBw
   go_upto_region 7 with fail
   rw[HU.out]
   obtain⟨c0,c1,c2⟩:=zr3 N0
   have hl2:wr.heap.size<u.heap.size:=by omega
   have hszu:w.heap.size≤u.heap.size:=by omega
   have hcap:=own_cap HOU.out
   clear N0 hzu d0 d1 d2
   refine wpL_region (S:=Kept u) [8] (by kernel_rfl) (Kept.drew u) (fun hS0=>?_)
   refine tla 0 24 ?_
   refine twa 1 25 ?_
   refine tua [2,6,7,8,9] 2 26 ?_
   refine twa 3 27 ?_
   refine tua [4,5,6,7,8,9] 4 28 ?_
   refine cl 5 29 fun K hK=>?_
   go_simp
   refine (give_any _ x x0 y z hx.1 hx.2 HD.out.1 HD.out.2).mono ?_
   rintro e z1 ⟨rfl,hz⟩
   rw[HG.out]
   have hS1:Kept u z1:=hS0.below (by simp) hz
   have hZ:=hide ((below_dr0' w.heap.size u).trans (hz.mono hszu))
   have HOZ:=hide (own_below HOU.out.drew hz (fun g hg=>(HOU.out.drew.lt g hg).2))
   have hzs:u.heap.size≤z1.heap.size:=by have:=hz.size;simpa using this
   clear hz
   go_wp2_with fail
   refine hK.out _ _ hS1 (fun hSn=>?_)
   clear hK K
   try simp only[zqd,zqe,zqf]
   refine twa 6 30 ?_
   refine cl 7 31 fun K hK=>?_
   go_simp
   have hS2:Kept u (z1.alloc (.cells #[.int .i64 y,.int .i64 g] 125)):=fun p hp=>(World.cell?_alloc_lt _ _ _ (by omega)).trans (hS1 p hp)
   refine hK.out _ _ hS2 (fun hSn=>?_)
   clear hK K
   try simp only[zqd,zqe,zqf]
   refine xl 8 fun K hK=>?_
   refine op_app (.tmp 24) (.tmp 31) 92 rfl w.heap.size 125 i0 (.agg #[.int .i64 0,.int .i64 0]) 2 16 Tryz.underlying92 hi0 hz0 hz1 hz2 rfl (by decide) (.slice Am k cm) k _ rfl (HOZ.out.alloc _) (z1.heap.size+1) (some ⟨z1.heap.size,0,none⟩) 1 1 [.int .i64 y,.int .i64 g] rfl rfl (Rd.new _ _ _ _) (by simp[Value.oneCell']) (by unfold maxLen;omega) (by omega) (by simp;omega) ?_
   intro A' c' y3 own3 hg3 hat3
   rw[HSN.out] at own3
   have hb3:=hide (app_below ((HBU.out.trans hZ.out).alloc (by omega) _) (HOZ.out.alloc _) hg3 (by simp;omega) (Nat.le_refl _))
   have HO3:=hide own3
   clear own3 hg3 hat3
   refine hK.out _ _ ?_
   clear hK K
   simp only[Act.put]
   try simp only[zqd,zqe,zqf]
   refine twa 9 13 ?_
   refine wpAnyL_done (by kernel_rfl) ?_ _
   clear hS0 hSn hS1
   go_wp2
   go_roundw
   case rel=>exact⟨k+1,A',c',by omega,by go_num,rfl,HO3,hb3⟩
   case measure=>simp[intOf];omega
  obtain rfl:k=L:=by omega
  have HFin:Hid (MsgPost w (wyMs true x es) (.returned (.slice Am k cm)) wr):=hide (by
   have hl:(es.map fun e=>(e.2.1,dadd x e.2.2)).length=k:=by rw[List.length_map];exact HL.out
   refine⟨Am,cm,by rw[HMs.out,hl],?_,HBw.out⟩
   rw[HMs.out]
   have h:=HOw.out
   rw[List.take_of_length_le (by rw[hl];exact Nat.le_refl _)] at h
   rw[hl]
   exact h)
  go_wp2
  go_ret
  exact HFin.out
theorem send1_any (w:World) (a1 a2 b1 b2:Int):Calls Tryz.prog 109 #[.agg #[.int .i64 a1,.int .i64 a2],.agg #[.int .i64 b1,.int .i64 b2]] w fun e w'=>e = .returned (.int .i64 (cmpOf a1 b1))∧Below w.heap.size w w':=by
 obtain⟨u,hu⟩:∃u,(w.alloc (.cells #[.int .i64 a1,.int .i64 a2] 125)).alloc (.cells #[.int .i64 b1,.int .i64 b2] 125)=u:=⟨_,rfl⟩
 have hbu:=hide (show Below w.heap.size w u by rw[←hu];exact ((Below.refl _ _).alloc (Nat.le_refl _) _).alloc (by simp) _)
 have M0:u.heap[w.heap.size]?=some (.cells #[.int .i64 a1,.int .i64 a2] 125):=by rw[←hu];exact (Below.heap_alloc _ _ _ (by simp)).trans (heap_alloc_last w _)
 have M1:u.heap[w.heap.size+1]?=some (.cells #[.int .i64 b1,.int .i64 b2] 125):=by
  rw[←hu]
  have:=heap_alloc_last (w.alloc (.cells #[.int .i64 a1,.int .i64 a2] 125)) (.cells #[.int .i64 b1,.int .i64 b2] 125)
  rw[World.size_alloc] at this
  exact this
 have HU:=hide hu
 clear hu
 have c0:u.cell? ⟨w.heap.size,0,none⟩=some (.int .i64 a1):=cell_of_row _ _ 0 _ _ _ M0
 have c1:u.cell? ⟨w.heap.size+1,0,none⟩=some (.int .i64 b1):=cell_of_row _ _ 0 _ _ _ M1
 clear M0 M1
 go_enter Tryz.func109,Tryz.ntmps109
 go_wp2_with fail
 rw[HU.out]
 go_wp2_with fail
 refine (compare_any _ a1 b1).mono ?_
 rintro e w1 ⟨rfl,rfl⟩
 go_wp2
 go_ret
 exact⟨rfl,hbu.out⟩
end Go.Proofs.YtpgbjabifhjogaaGreat

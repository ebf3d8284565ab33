/- Lemmas: Snw. -/
import Derived.Test.YtpojjmbalgmcoaaGreatProg
import Derived.Deep.Strs
import Derived.Test.YtpojjmbalgmcoaaGreatStWw37
import Derived.Test.YtpojjmbalgmcoaaGreatStWw38
set_option linter.unusedVariables false
set_option linter.unusedSimpArgs false
set_option maxRecDepth 100000
set_option maxHeartbeats 16000000
namespace Go.Proofs.YtpojjmbalgmcoaaGreat
open Go.RowKit
theorem nil_ranks (w:World):∀n:Nat,Sem.run Tryz.prog (nilAhead (n+8) 129 (.agg #[]) "treadwheel/algos.combine") w = .ok (some false) w:=fun n=>by kernel_rfl
def RngM (l:List Ms):Prop:=∀m∈l,i64B m.2
theorem RngM.snoc {l:List Ms} {m:Ms} (h:RngM l) (hm:i64B m.2):RngM (l ++ [m]):=fun x hx=>by
 rcases List.mem_append.1 hx with h1 | h1
 ·exact h x h1
 simp at h1;rw[h1];exact hm
theorem RngM.perm {l d:List Ms} (h:RngM l) (hp:d.Perm l):RngM d:=fun x hx=>h x (hp.mem_iff.1 hx)
theorem rk_rng (y:Int) (es:List Ed) (hy:-9223372036854775808≤y∧y≤9223372036854775807):RngM (rkMs y es):=fun m hm=>by
 obtain⟨e,_,rfl⟩:=List.mem_map.1 hm
 show i64B (evenF y es.length)
 unfold evenF shareF i64B
 by_cases h:y<0∨(es.length:Int)<1
 ·simp[h]
 rw[if_neg h]
 have:=tdiv_in (a:=y) (n:=(es.length:Int)) (by omega) hy.2 (by omega)
 simp
 omega
theorem RngM.set {l:List Ms} {m:Ms} {p:Nat} (h:RngM l) (hm:i64B m.2):RngM (l.set p m):=fun x hx=>by
 rcases List.mem_or_eq_of_mem_set hx with h1 | h1
 ·exact h x h1
 rw[h1];exact hm
theorem dadd_i64 (a b:Int):i64B (dadd a b):=by
 have h1:=dist_bounds a
 have h2:=dist_bounds b
 unfold dadd i64B
 split <;> omega
theorem set_same {l:List Value} {i:Nat} {u:Value} (h:l[i]?=some u):l.set i u=l:=by
 refine List.ext_getElem? fun t=>?_
 rw[List.getElem?_set]
 by_cases c:i=t
 ·subst c;rw[if_pos rfl,if_pos (List.getElem?_eq_some_iff.1 h).1,h]
 rw[if_neg c]
def SndPost (k:Int) (w:World) (l:List Ms) (e:Ending) (w':World):Prop:=∃d,StS ltF (fun m:Ms=>m.1) l.length l d∧∃A c,e = .returned (.slice A (foldM k d).length c)∧Mss w' w'.heap.size A (foldM k d)∧Below w.heap.size w w'∧NewA w.heap.size A
theorem snd1_any (w:World) (j1 j2 j3 j4 v y:Int) (ch:Bool) (A:Option Addr) (es:List Ed) (L c:Nat) (B:Value) (hL:es.length=L) (hE:Eds w w.heap.size A es) (hLb:L≤400) (hy:-9223372036854775808≤y∧y≤9223372036854775807) :
  Calls Tryz.prog 94 #[.agg #[.int .u8 1,.int .i64 j1,.int .i64 j2,.int .i64 j3,.int .i64 j4],.int .i64 v,.int .i64 y,.bool ch,.slice A L c,B] w (SndPost 1 w (rkMs y es)):=by
 obtain⟨i0,hi0,hz0,hz1,hz2⟩:=info_parts (show (Tryz.prog.info? 185).map (fun i=>(i.zero,i.size,i.bytes))=some (some (.agg #[.int .i64 0,.int .i64 0]),2,16) by kernel_rfl)
 obtain⟨u,hu⟩:∃u,w.alloc (.cells #[.int .u8 1,.int .i64 j1,.int .i64 j2,.int .i64 j3,.int .i64 j4] 27)=u:=⟨_,rfl⟩
 have hzu:u.heap.size=w.heap.size+1:=by rw[←hu];simp
 have HBu:Hid (Below w.heap.size w u):=hide (by rw[←hu];exact (Below.refl _ _).alloc (Nat.le_refl _) _)
 have M0:=hide (show u.heap[w.heap.size]?=some (.cells #[.int .u8 1,.int .i64 j1,.int .i64 j2,.int .i64 j3,.int .i64 j4] 27) by rw[←hu];exact heap_alloc_last _ _)
 have HE:=hide (hE.next HBu.out)
 have HU:=hide hu
 clear hu hE
 obtain⟨c0,c1,c2,c3,c4⟩:=zr5 M0.out
 have hlM:(rkMs y es).length=L:=by unfold rkMs;rw[List.length_map];exact hL
 have HLM:=hide hlM
 have HRG:=hide (rk_rng y es hy)
 go_enter Tryz.func94,Tryz.ntmps94
 go_wp2_with fail
 rw[HU.out]
 refine (of1 _ j1 j2 j3 j4).mono ?_
 rintro _ w1 ⟨rfl,hb⟩
 have HE1:=hide (HE.out.next hb)
 have HB1:=hide (HBu.out.trans (hb.mono (by omega)))
 clear hb c0 c1 c2 c3 c4 HE
 go_wp2_with fail
 refine (rksend_any _ v y ch A es L c _ hL HE1.out (by omega) hy).mono ?_
 rintro _ w2 ⟨A2,cp,rfl,own2,hb2⟩
 obtain⟨l,hl⟩:∃l,rkMs y es=l:=⟨_,rfl⟩
 rw[hl] at own2 HLM HRG ⊢
 rw[HLM.out] at own2 ⊢
 have HB2:=hide (HB1.out.trans (hb2.mono HB1.out.size))
 have HOwn:=hide own2
 have HLl:=hide hl
 clear own2 hb2 hl hlM hL
 by_cases hL0:L=0
 ·subst hL0
  have hl0:l=[]:=List.eq_nil_of_length_eq_zero HLM.out
  have HFin:Hid (SndPost 1 w l (.returned (.slice none 0 0)) w2):=hide (by rw[hl0];exact⟨[],⟨Mv.refl _ _ _,fun _=>⟨fun i j x y _ _ h3=>by simp at h3,Stb.refl _ _⟩⟩,none,0,rfl,fun h=>absurd rfl h,HB2.out,NewA.none_ _⟩)
  clear hl0
  go_wp2_with fail
  refine (sort0_any _ A2 cp).mono ?_
  rintro _ w3 ⟨rfl,rfl⟩
  go_wp2
  go_loopw [15,34] (fun v15 v34 wr=>v15 = .slice none 0 0∧v34 = .int .i64 0∧Hid (SndPost 1 w l (.returned (.slice none 0 0)) wr)) (fun _ _ _=>0)
  case atStart=>exact⟨rfl,rfl,HFin⟩
  case round=>
   obtain⟨rfl,rfl,HF⟩:=hrel
   go_wp2
   go_ret
   rw[HLl.out]
   exact HF.out
 obtain⟨g,hA2,g1,g2,g3⟩:=own_addr HOwn.out (by omega)
 subst hA2
 have hsr:SR w2 w1.heap.size g L cp l w2:=⟨HLM.out,HOwn.out,KB.refl _ _,Below.refl _ _⟩
 go_wp2_with fail
 refine (sort_any (fun m:Ms=>m.1) w2 _ w1.heap.size g L cp l hsr (by omega)).mono ?_
 rintro _ w3 ⟨rfl,d,hs3,hst⟩
 have HS3:=hide hs3
 have HSt:=hide hst
 have HLd:=hide hs3.1
 have HRD:Hid (RngM d):=hide (HRG.out.perm hst.1.perm)
 have HB3:Hid (Below w.heap.size w w3):=hide (HB2.out.trans (hs3.2.2.2.mono (by have:=HB1.out.size;omega)))
 clear hs3 hst hsr
 go_wp2
 go_loopw [15,34] (fun v15 v34 wr=>∃(i q:Nat) (Am:Option Addr) (cm:Nat),i≤L∧q≤i∧v34 = .int .i64 (i:Int)∧v15 = .slice Am q cm∧Hid ((foldM 1 (d.take i)).length=q)∧Hid (wr.ownsRow w3.heap.size 185 2 (.slice Am q cm) q (msFlat (foldM 1 (d.take i))))∧Hid (Below w3.heap.size w3 wr)∧Hid (RngM (foldM 1 (d.take i)))) (fun _ v34 _=>L-(intOf v34).toNat)
 case atStart=>exact⟨0,0,none,0,by omega,by omega,rfl,rfl,hide rfl,hide (World.ownsRow_nil _ _ _ _),hide (Below.refl _ _),hide (fun m hm=>by cases hm)⟩
 case round=>
  obtain⟨i,q,Am,cm,hi,hqi,rfl,rfl,HQ,HOw,HBw,HR⟩:=hrel
  have hsz:w3.heap.size≤wr.heap.size:=HBw.out.size
  by_cases hlt:i<L
  ·have hI1:(i:Int)<(L:Int):=by omega
   obtain⟨x,hx⟩:=get_some (d:=d) (i:=i) (by rw[HLd.out];exact hlt)
   obtain⟨p0,p1⟩:=HS3.out.get hx
   have HX:=hide hx
   have lg3:=HS3.out.glt
   have p0:=(HBw.out.cell (p:=⟨g,i*2,none⟩) lg3).trans p0
   have p1:=(HBw.out.cell (p:=⟨g,i*2+1,none⟩) lg3).trans p1
   have lg:g<wr.heap.size:=by omega
   clear hx
   obtain⟨u2,hu2⟩:∃u2,wr.alloc (.cells #[.int .i64 x.1,.int .i64 x.2] 185)=u2:=⟨_,rfl⟩
   have hl2:wr.heap.size<u2.heap.size:=by rw[←hu2];simp
   have N0:=hide (show u2.heap[wr.heap.size]?=some (.cells #[.int .i64 x.1,.int .i64 x.2] 185) by rw[←hu2];exact heap_alloc_last _ _)
   have HBU:Hid (Below w3.heap.size w3 u2):=hide (by rw[←hu2];exact HBw.out.alloc hsz _)
   have HOU:Hid (u2.ownsRow w3.heap.size 185 2 (.slice Am q cm) q (msFlat (foldM 1 (d.take i)))):=hide (by rw[←hu2];exact HOw.out.alloc _)
   have hszu:w3.heap.size≤u2.heap.size:=by omega
   have HU2:=hide hu2
   clear hu2 HOw HBw
   go_upto_region 11 with fail
   rw[HU2.out]
   obtain⟨c0,c1⟩:=zr2 N0.out
   have hcap:=own_cap HOU.out
   clear p0 p1
   by_cases hq0:q=0
   ·subst hq0
    have HPut:Hid (foldM 1 (d.take (i+1))=foldM 1 (d.take i) ++ [x]):=hide (by rw[foldM_take 1 HX.out];exact putM_none HQ.out)
    have HAcc:Hid ((foldM 1 (d.take i)).length=(foldM 1 (d.take i)).length):=hide rfl
    refine wp_region_held_drew (S:=Kept u2) (by kernel_rfl) (Kept.drew u2) (fun hS0=>?_)
    refine tka 0 40 ?_
    refine tka 1 41 ?_
    refine tka 2 42 ?_
    refine ska 3 43 ?_
    refine ska 4 44 ?_
    refine ska 5 45 ?_
    refine ska 6 46 ?_
    refine ska 7 47 ?_
    refine ska 8 48 ?_
    refine ska 9 49 ?_
    refine ska 10 50 ?_
    refine ska 11 51 ?_
    refine tka 12 52 ?_
    refine wpAnyH_done (by kernel_rfl) ?_ _
    clear hS0
    have c0:u2.drew.cell? ⟨wr.heap.size,0,none⟩=some (.int .i64 x.1):=c0
    have c1:u2.drew.cell? ⟨wr.heap.size,1,none⟩=some (.int .i64 x.2):=c1
    have HOD:=hide (HOU.out.drew)
    have HBD:=hide (HBU.out.drew)
    have hzd:wr.heap.size<u2.drew.heap.size:=hl2
    have hzd2:w3.heap.size≤u2.drew.heap.size:=hszu
    obtain⟨y0,hy0⟩:∃y0,u2.drew=y0:=⟨_,rfl⟩
    rw[hy0] at c0 c1 HOD HBD hzd hzd2 ⊢
    clear hy0
    go_wp2_with (at_builtin;refine wpList_app rfl (.tmp 71) (.tmp 73) 166 rfl w3.heap.size 185 i0 (.agg #[.int .i64 0,.int .i64 0]) 2 16 Tryz.underlying166 hi0 hz0 hz1 hz2 rfl (by decide) (.slice Am 0 cm) 0 _ rfl (HOD.out.alloc _) (y0.heap.size+1) (some ⟨y0.heap.size,0,none⟩) 1 1 [.int .i64 x.1,.int .i64 x.2] rfl rfl (Rd.new _ _ _ _) (by simp[Value.oneCell']) (by unfold maxLen;omega) (by omega) (by simp;omega) ?_)
    intro A' c' y3 own3 hg3 hat3
    have HO3:Hid (y3.ownsRow w3.heap.size 185 2 (.slice A' (0+1) c') (0+1) (msFlat (foldM 1 (d.take (i+1))))):=hide (by rw[HPut.out,←msFlat_app];exact own3)
    have HB3:=hide (app_below (HBD.out.alloc hzd2 _) (HOD.out.alloc _) hg3 (by simp;omega) (Nat.le_refl _))
    have HQ3:Hid ((foldM 1 (d.take (i+1))).length=0+1):=hide (by rw[HPut.out,List.length_append,HQ.out];rfl)
    have HR3:Hid (RngM (foldM 1 (d.take (i+1)))):=hide (by rw[HPut.out];exact RngM.snoc HR.out (HRD.out x (List.mem_of_getElem? HX.out)))
    clear own3 hg3 hat3
    go_wp2
    go_roundw
    case rel=>first | exact⟨i+1,0+1,A',c',by omega,by omega,by first | rfl | go_num,by first | rfl | go_num,HQ3,HO3,HB3,HR3⟩ | ((repeat apply Exists.intro);exact⟨⟨i+1,0+1,A',c',by omega,by omega,by first | rfl | go_num,by first | rfl | go_num,HQ3,HO3,HB3,HR3⟩,rfl⟩)
    case measure=>simp[intOf];omega
   obtain⟨p,hp⟩:∃p,q=p+1:=⟨q-1,by omega⟩
   obtain⟨a,ha⟩:=get_some (d:=foldM 1 (d.take i)) (i:=p) (by have:=HQ.out;omega)
   obtain⟨gg,hA1,q1,q2,q3⟩:=own_addr HOU.out (by omega)
   subst hA1
   have d0:u2.cell? ⟨gg,p*2,none⟩=some (.int .i64 a.1):=(HOU.out.cellAt (p*2) (by omega)).trans (msFlat_get ha 0 _ rfl)
   have d1:u2.cell? ⟨gg,p*2+1,none⟩=some (.int .i64 a.2):=(HOU.out.cellAt (p*2+1) (by omega)).trans (msFlat_get ha 1 _ rfl)
   have f1:=HOU.out.frozenAt (p*2+1)
   have lp:(p:Int)<(q:Int):=by omega
   have lq:0<(q:Int):=by omega
   have lq2:0<q:=by omega
   have e1:(q:Int)-1=(p:Int):=by omega
   have HA:=hide ha
   have HP:=hide hp
   have HQ2:=hide (show (foldM 1 (d.take i)).length=p+1 by rw[HQ.out];exact hp)
   have e2:IntKind.i64.wrap (p:Int)=(p:Int):=i64_nat _ (by omega)
   clear ha hp
   by_cases he:a.1=x.1
   ·have HRa:=hide (HR.out a (List.mem_of_getElem? HA.out))
    have HRx:=hide (HRD.out x (List.mem_of_getElem? HX.out))
    have hab:(a.1 == x.1)=true:=by simp[he]
    rw[he] at d0
    refine wp_region_held_drew (S:=Kept u2) (by kernel_rfl) (Kept.drew u2) (fun hS0=>?_)
    refine tka 0 40 ?_
    refine tka 1 41 ?_
    refine tka 2 42 ?_
    refine tka 3 43 ?_
    refine tka 4 44 ?_
    refine tka 5 45 ?_
    refine tka 6 46 ?_
    refine tka 7 47 ?_
    refine tka 8 48 ?_
    refine tka 9 49 ?_
    refine tka 10 50 ?_
    refine tka 11 51 ?_
    refine tka 12 52 ?_
    refine wpAnyH_done (by kernel_rfl) ?_ _
    clear hS0
    have c0:u2.drew.cell? ⟨wr.heap.size,0,none⟩=some (.int .i64 x.1):=c0
    have c1:u2.drew.cell? ⟨wr.heap.size,1,none⟩=some (.int .i64 x.2):=c1
    have HOD:=hide (HOU.out.drew)
    have HBD:=hide (HBU.out.drew)
    have hzd:wr.heap.size<u2.drew.heap.size:=hl2
    have hzd2:w3.heap.size≤u2.drew.heap.size:=hszu
    have d0:u2.drew.cell? ⟨gg,p*2,none⟩=some (.int .i64 x.1):=d0
    have d1:u2.drew.cell? ⟨gg,p*2+1,none⟩=some (.int .i64 a.2):=d1
    have q2:gg<u2.drew.heap.size:=q2
    clear f1
    obtain⟨y0,hy0⟩:∃y0,u2.drew=y0:=⟨_,rfl⟩
    rw[hy0] at c0 c1 d0 d1 q2 HOD HBD hzd hzd2 ⊢
    clear hy0
    go_upto_region 12 with fail
    refine wpL_region (S:=Kept y0) [18] (by kernel_rfl) (Kept.drew y0) (fun hS0=>?_)
    refine tla 0 53 ?_
    refine tla 1 54 ?_
    refine tla 2 55 ?_
    refine tla 3 56 ?_
    refine tla 4 57 ?_
    refine tla 5 58 ?_
    refine tla 6 59 ?_
    refine tla 7 60 ?_
    refine tla 8 61 ?_
    refine tla 9 62 ?_
    refine tla 10 63 ?_
    refine tla 11 64 ?_
    refine tla 12 65 ?_
    refine tl 13 66 ?_ ?_ ?_;rotate_left;(focus (intro w hSw;have hh:=nil_ranks w;go_simp;(try with_reducible rfl);done));(try simp only[zqd,zqe,zqf])
    refine tla 14 67 ?_
    refine cl 15 68 fun K hK=>?_
    go_simp
    go_upon
    refine (rkcomb_any _ a.2 x.2 HRa.out.1 HRa.out.2 HRx.out.1 HRx.out.2).mono ?_
    rintro _ z1 ⟨rfl,hz⟩
    have hS1:Kept y0 z1:=hS0.below (by simp) hz
    have HZ9:=hide hz
    have HO9:=hide (own_below HOD.out.drew hz (fun g hg=>(HOD.out.drew.lt g hg).2))
    have f9:=HO9.out.frozenAt (p*2+1)
    have b9:z1.cell? ⟨gg,p*2+1,none⟩=some (.int .i64 a.2):=(HO9.out.cellAt (p*2+1) (by omega)).trans (msFlat_get HA.out 1 _ rfl)
    clear hz
    go_wp2_with fail
    refine hK.out _ _ hS1 (fun hSn=>?_)
    clear hK K
    try simp only[zqd,zqe,zqf]
    refine twa 16 69 ?_
    refine tla 17 70 ?_
    refine xl 18 fun K hK=>?_
    go_wp2_with fail
    refine hK.out _ _ ?_
    clear hK K
    try simp only[zqd,zqe,zqf]
    refine wpAnyL_done (by kernel_rfl) ?_ _
    have HPut:Hid (foldM 1 (d.take (i+1))=(foldM 1 (d.take i)).set p (a.1,dadd a.2 x.2)):=hide (by rw[foldM_take 1 HX.out];have h:=putM_same (k:=1) HQ2.out HA.out he;rw[show combF 1 a.2 x.2=dadd a.2 x.2 by simp[combF]] at h;exact h)
    have hst:=HO9.out.stored (p*2+1) (.int .i64 (dadd a.2 x.2))
    have hg9:=(HO9.out.lt gg rfl).1
    have HO3:Hid ((z1.setCell ⟨gg,p*2+1,none⟩ (.int .i64 (dadd a.2 x.2))).ownsRow w3.heap.size 185 2 (.slice (some ⟨gg,0,none⟩) q cm) q (msFlat (foldM 1 (d.take (i+1))))):=hide (by
  rw[HPut.out,flat_set _ (by have:=HQ2.out;omega)]
  have h0:(msFlat (foldM 1 (d.take i)))[p*2]?=some (.int .i64 a.1):=msFlat_get HA.out 0 _ rfl
  dsimp only
  rw[set_same h0]
  exact hst.1)
    have HB3:Hid (Below w3.heap.size w3 (z1.setCell ⟨gg,p*2+1,none⟩ (.int .i64 (dadd a.2 x.2)))):=hide ((HBD.out.trans ((below_dr0 w3.heap.size y0).trans (HZ9.out.mono hzd2))).setCell (p:=⟨gg,p*2+1,none⟩) hg9 _)
    have HQ3:Hid ((foldM 1 (d.take (i+1))).length=q):=hide (by rw[HPut.out,List.length_set];exact HQ.out)
    have HR3:Hid (RngM (foldM 1 (d.take (i+1)))):=hide (by rw[HPut.out];exact RngM.set HR.out (by show i64B (dadd a.2 x.2);exact dadd_i64 _ _))
    clear hst hS0 hS1 hSn f9 b9 c0 c1 d0 d1 e1 e2
    go_wp2
    go_roundw
    case rel=>first | exact⟨i+1,q,_,cm,by omega,by omega,by first | rfl | go_num,rfl,HQ3,HO3,HB3,HR3⟩ | ((repeat apply Exists.intro);exact⟨⟨i+1,q,_,cm,by omega,by omega,by first | rfl | go_num,rfl,HQ3,HO3,HB3,HR3⟩,rfl⟩)
    case measure=>simp[intOf];omega
   have HPut:Hid (foldM 1 (d.take (i+1))=foldM 1 (d.take i) ++ [x]):=hide (by rw[foldM_take 1 HX.out];exact putM_far HQ2.out HA.out he)
   have HAcc:Hid True:=hide trivial
   refine wp_region_held_drew (S:=Kept u2) (by kernel_rfl) (Kept.drew u2) (fun hS0=>?_)
   refine tka 0 40 ?_
   refine tka 1 41 ?_
   refine tka 2 42 ?_
   refine tka 3 43 ?_
   refine tka 4 44 ?_
   refine tka 5 45 ?_
   refine tka 6 46 ?_
   refine tka 7 47 ?_
   refine tka 8 48 ?_
   refine tka 9 49 ?_
   refine tka 10 50 ?_
   refine tka 11 51 ?_
   refine tka 12 52 ?_
   refine wpAnyH_done (by kernel_rfl) ?_ _
   clear hS0
   have c0:u2.drew.cell? ⟨wr.heap.size,0,none⟩=some (.int .i64 x.1):=c0
   have c1:u2.drew.cell? ⟨wr.heap.size,1,none⟩=some (.int .i64 x.2):=c1
   have HOD:=hide (HOU.out.drew)
   have HBD:=hide (HBU.out.drew)
   have hzd:wr.heap.size<u2.drew.heap.size:=hl2
   have hzd2:w3.heap.size≤u2.drew.heap.size:=hszu
   clear d0 d1 f1 e1 e2
   obtain⟨y0,hy0⟩:∃y0,u2.drew=y0:=⟨_,rfl⟩
   rw[hy0] at c0 c1 HOD HBD hzd hzd2 ⊢
   clear hy0
   go_wp2_with (at_builtin;refine wpList_app rfl (.tmp 71) (.tmp 73) 166 rfl w3.heap.size 185 i0 (.agg #[.int .i64 0,.int .i64 0]) 2 16 Tryz.underlying166 hi0 hz0 hz1 hz2 rfl (by decide) (.slice (some ⟨gg,0,none⟩) q cm) q _ rfl (HOD.out.alloc _) (y0.heap.size+1) (some ⟨y0.heap.size,0,none⟩) 1 1 [.int .i64 x.1,.int .i64 x.2] rfl rfl (Rd.new _ _ _ _) (by simp[Value.oneCell']) (by unfold maxLen;omega) (by omega) (by simp;omega) ?_)
   intro A' c' y3 own3 hg3 hat3
   have HO3:Hid (y3.ownsRow w3.heap.size 185 2 (.slice A' (q+1) c') (q+1) (msFlat (foldM 1 (d.take (i+1))))):=hide (by rw[HPut.out,←msFlat_app];exact own3)
   have HB3:=hide (app_below (HBD.out.alloc hzd2 _) (HOD.out.alloc _) hg3 (by simp;omega) (Nat.le_refl _))
   have HQ3:Hid ((foldM 1 (d.take (i+1))).length=q+1):=hide (by rw[HPut.out,List.length_append,HQ.out];rfl)
   have HR3:Hid (RngM (foldM 1 (d.take (i+1)))):=hide (by rw[HPut.out];exact RngM.snoc HR.out (HRD.out x (List.mem_of_getElem? HX.out)))
   clear own3 hg3 hat3
   go_wp2
   go_roundw
   case rel=>first | exact⟨i+1,q+1,A',c',by omega,by omega,by first | rfl | go_num,by first | rfl | go_num,HQ3,HO3,HB3,HR3⟩ | ((repeat apply Exists.intro);exact⟨⟨i+1,q+1,A',c',by omega,by omega,by first | rfl | go_num,by first | rfl | go_num,HQ3,HO3,HB3,HR3⟩,rfl⟩)
   case measure=>simp[intOf];omega
  obtain rfl:i=L:=by omega
  have HFin:Hid (SndPost 1 w l (.returned (.slice Am q cm)) wr):=hide (by
  have hf:d.take i=d:=List.take_of_length_le (by rw[HLd.out];exact Nat.le_refl _)
  have ho:=HOw.out
  have hq:=HQ.out
  rw[hf] at ho hq
  exact⟨d,by rw[HLM.out];exact HSt.out,Am,cm,by rw[hq],Mss.of_rd (Rd.of_own ho),HB3.out.trans (HBw.out.mono HB3.out.size),own_new ho (by have:=HB3.out.size;omega)⟩)
  go_wp2
  go_ret
  rw[HLl.out]
  exact HFin.out
theorem nil_ways (w:World):∀n:Nat,Sem.run Tryz.prog (nilAhead (n+8) 133 (.agg #[]) "treadwheel/algos.combine") w = .ok (some false) w:=fun n=>by kernel_rfl
theorem wyMs_len (ch:Bool) (y:Int) (es:List Ed):(wyMs ch y es).length≤es.length:=by
 unfold wyMs
 split <;> simp
theorem wy_rng (ch:Bool) (y:Int) (es:List Ed):RngM (wyMs ch y es):=fun m hm=>by
 unfold wyMs at hm
 split at hm
 ·obtain⟨e,_,rfl⟩:=List.mem_map.1 hm
  exact dadd_i64 _ _
 cases hm
theorem snd3_any (w:World) (j1 j2 j3 j4 v y:Int) (ch:Bool) (A:Option Addr) (es:List Ed) (Le c:Nat) (B:Value) (hL:es.length=Le) (hE:Eds w w.heap.size A es) (hLe:Le≤400) (hy:-9223372036854775808≤y∧y≤9223372036854775807) :
  Calls Tryz.prog 94 #[.agg #[.int .u8 3,.int .i64 j1,.int .i64 j2,.int .i64 j3,.int .i64 j4],.int .i64 v,.int .i64 y,.bool ch,.slice A Le c,B] w (SndPost 3 w (wyMs ch y es)):=by
 obtain⟨i0,hi0,hz0,hz1,hz2⟩:=info_parts (show (Tryz.prog.info? 185).map (fun i=>(i.zero,i.size,i.bytes))=some (some (.agg #[.int .i64 0,.int .i64 0]),2,16) by kernel_rfl)
 obtain⟨u,hu⟩:∃u,w.alloc (.cells #[.int .u8 3,.int .i64 j1,.int .i64 j2,.int .i64 j3,.int .i64 j4] 27)=u:=⟨_,rfl⟩
 have hzu:u.heap.size=w.heap.size+1:=by rw[←hu];simp
 have HBu:Hid (Below w.heap.size w u):=hide (by rw[←hu];exact (Below.refl _ _).alloc (Nat.le_refl _) _)
 have M0:=hide (show u.heap[w.heap.size]?=some (.cells #[.int .u8 3,.int .i64 j1,.int .i64 j2,.int .i64 j3,.int .i64 j4] 27) by rw[←hu];exact heap_alloc_last _ _)
 have HE:=hide (hE.next HBu.out)
 have HU:=hide hu
 clear hu hE
 obtain⟨c0,c1,c2,c3,c4⟩:=zr5 M0.out
 obtain⟨L,hlM⟩:∃L,(wyMs ch y es).length=L:=⟨_,rfl⟩
 have hLb:L≤400:=by rw[←hlM];exact Nat.le_trans (wyMs_len ch y es) (by omega)
 have HLM:=hide hlM
 have HRG:=hide (wy_rng ch y es)
 go_enter Tryz.func94,Tryz.ntmps94
 go_wp2_with fail
 rw[HU.out]
 refine (of3 _ j1 j2 j3 j4).mono ?_
 rintro _ w1 ⟨rfl,hb⟩
 have HE1:=hide (HE.out.next hb)
 have HB1:=hide (HBu.out.trans (hb.mono (by omega)))
 clear hb c0 c1 c2 c3 c4 HE
 go_wp2_with fail
 refine (wysend_any _ v y ch A es Le c _ hL HE1.out (by omega) hy).mono ?_
 rintro _ w2 ⟨A2,cp,rfl,own2,hb2⟩
 obtain⟨l,hl⟩:∃l,wyMs ch y es=l:=⟨_,rfl⟩
 rw[hl] at own2 HLM HRG ⊢
 rw[HLM.out] at own2 ⊢
 have HB2:=hide (HB1.out.trans (hb2.mono HB1.out.size))
 have HOwn:=hide own2
 have HLl:=hide hl
 clear own2 hb2 hl hlM
 by_cases hL0:L=0
 ·subst hL0
  have hl0:l=[]:=List.eq_nil_of_length_eq_zero HLM.out
  have HFin:Hid (SndPost 3 w l (.returned (.slice none 0 0)) w2):=hide (by rw[hl0];exact⟨[],⟨Mv.refl _ _ _,fun _=>⟨fun i j x y _ _ h3=>by simp at h3,Stb.refl _ _⟩⟩,none,0,rfl,fun h=>absurd rfl h,HB2.out,NewA.none_ _⟩)
  clear hl0
  go_wp2_with fail
  refine (sort0_any _ A2 cp).mono ?_
  rintro _ w3 ⟨rfl,rfl⟩
  go_wp2
  go_loopw [15,34] (fun v15 v34 wr=>v15 = .slice none 0 0∧v34 = .int .i64 0∧Hid (SndPost 3 w l (.returned (.slice none 0 0)) wr)) (fun _ _ _=>0)
  case atStart=>exact⟨rfl,rfl,HFin⟩
  case round=>
   obtain⟨rfl,rfl,HF⟩:=hrel
   go_wp2
   go_ret
   rw[HLl.out]
   exact HF.out
 obtain⟨g,hA2,g1,g2,g3⟩:=own_addr HOwn.out (by omega)
 subst hA2
 have hsr:SR w2 w1.heap.size g L cp l w2:=⟨HLM.out,HOwn.out,KB.refl _ _,Below.refl _ _⟩
 go_wp2_with fail
 refine (sort_any (fun m:Ms=>m.1) w2 _ w1.heap.size g L cp l hsr (by omega)).mono ?_
 rintro _ w3 ⟨rfl,d,hs3,hst⟩
 have HS3:=hide hs3
 have HSt:=hide hst
 have HLd:=hide hs3.1
 have HRD:Hid (RngM d):=hide (HRG.out.perm hst.1.perm)
 have HB3:Hid (Below w.heap.size w w3):=hide (HB2.out.trans (hs3.2.2.2.mono (by have:=HB1.out.size;omega)))
 clear hs3 hst hsr
 go_wp2
 go_loopw [15,34] (fun v15 v34 wr=>∃(i q:Nat) (Am:Option Addr) (cm:Nat),i≤L∧q≤i∧v34 = .int .i64 (i:Int)∧v15 = .slice Am q cm∧Hid ((foldM 3 (d.take i)).length=q)∧Hid (wr.ownsRow w3.heap.size 185 2 (.slice Am q cm) q (msFlat (foldM 3 (d.take i))))∧Hid (Below w3.heap.size w3 wr)∧Hid (RngM (foldM 3 (d.take i)))) (fun _ v34 _=>L-(intOf v34).toNat)
 case atStart=>exact⟨0,0,none,0,by omega,by omega,rfl,rfl,hide rfl,hide (World.ownsRow_nil _ _ _ _),hide (Below.refl _ _),hide (fun m hm=>by cases hm)⟩
 case round=>
  obtain⟨i,q,Am,cm,hi,hqi,rfl,rfl,HQ,HOw,HBw,HR⟩:=hrel
  have hsz:w3.heap.size≤wr.heap.size:=HBw.out.size
  by_cases hlt:i<L
  ·have hI1:(i:Int)<(L:Int):=by omega
   obtain⟨x,hx⟩:=get_some (d:=d) (i:=i) (by rw[HLd.out];exact hlt)
   obtain⟨p0,p1⟩:=HS3.out.get hx
   have HX:=hide hx
   have lg3:=HS3.out.glt
   have p0:=(HBw.out.cell (p:=⟨g,i*2,none⟩) lg3).trans p0
   have p1:=(HBw.out.cell (p:=⟨g,i*2+1,none⟩) lg3).trans p1
   have lg:g<wr.heap.size:=by omega
   clear hx
   obtain⟨u2,hu2⟩:∃u2,wr.alloc (.cells #[.int .i64 x.1,.int .i64 x.2] 185)=u2:=⟨_,rfl⟩
   have hl2:wr.heap.size<u2.heap.size:=by rw[←hu2];simp
   have N0:=hide (show u2.heap[wr.heap.size]?=some (.cells #[.int .i64 x.1,.int .i64 x.2] 185) by rw[←hu2];exact heap_alloc_last _ _)
   have HBU:Hid (Below w3.heap.size w3 u2):=hide (by rw[←hu2];exact HBw.out.alloc hsz _)
   have HOU:Hid (u2.ownsRow w3.heap.size 185 2 (.slice Am q cm) q (msFlat (foldM 3 (d.take i)))):=hide (by rw[←hu2];exact HOw.out.alloc _)
   have hszu:w3.heap.size≤u2.heap.size:=by omega
   have HU2:=hide hu2
   clear hu2 HOw HBw
   go_upto_region 11 with fail
   rw[HU2.out]
   obtain⟨c0,c1⟩:=zr2 N0.out
   have hcap:=own_cap HOU.out
   clear p0 p1
   by_cases hq0:q=0
   ·subst hq0
    have HPut:Hid (foldM 3 (d.take (i+1))=foldM 3 (d.take i) ++ [x]):=hide (by rw[foldM_take 3 HX.out];exact putM_none HQ.out)
    have HAcc:Hid ((foldM 3 (d.take i)).length=(foldM 3 (d.take i)).length):=hide rfl
    refine wp_region_held_drew (S:=Kept u2) (by kernel_rfl) (Kept.drew u2) (fun hS0=>?_)
    refine tka 0 40 ?_
    refine tka 1 41 ?_
    refine tka 2 42 ?_
    refine ska 3 43 ?_
    refine ska 4 44 ?_
    refine ska 5 45 ?_
    refine ska 6 46 ?_
    refine ska 7 47 ?_
    refine ska 8 48 ?_
    refine ska 9 49 ?_
    refine ska 10 50 ?_
    refine ska 11 51 ?_
    refine tka 12 52 ?_
    refine wpAnyH_done (by kernel_rfl) ?_ _
    clear hS0
    have c0:u2.drew.cell? ⟨wr.heap.size,0,none⟩=some (.int .i64 x.1):=c0
    have c1:u2.drew.cell? ⟨wr.heap.size,1,none⟩=some (.int .i64 x.2):=c1
    have HOD:=hide (HOU.out.drew)
    have HBD:=hide (HBU.out.drew)
    have hzd:wr.heap.size<u2.drew.heap.size:=hl2
    have hzd2:w3.heap.size≤u2.drew.heap.size:=hszu
    obtain⟨y0,hy0⟩:∃y0,u2.drew=y0:=⟨_,rfl⟩
    rw[hy0] at c0 c1 HOD HBD hzd hzd2 ⊢
    clear hy0
    go_wp2_with (at_builtin;refine wpList_app rfl (.tmp 71) (.tmp 73) 166 rfl w3.heap.size 185 i0 (.agg #[.int .i64 0,.int .i64 0]) 2 16 Tryz.underlying166 hi0 hz0 hz1 hz2 rfl (by decide) (.slice Am 0 cm) 0 _ rfl (HOD.out.alloc _) (y0.heap.size+1) (some ⟨y0.heap.size,0,none⟩) 1 1 [.int .i64 x.1,.int .i64 x.2] rfl rfl (Rd.new _ _ _ _) (by simp[Value.oneCell']) (by unfold maxLen;omega) (by omega) (by simp;omega) ?_)
    intro A' c' y3 own3 hg3 hat3
    have HO3:Hid (y3.ownsRow w3.heap.size 185 2 (.slice A' (0+1) c') (0+1) (msFlat (foldM 3 (d.take (i+1))))):=hide (by rw[HPut.out,←msFlat_app];exact own3)
    have HB3:=hide (app_below (HBD.out.alloc hzd2 _) (HOD.out.alloc _) hg3 (by simp;omega) (Nat.le_refl _))
    have HQ3:Hid ((foldM 3 (d.take (i+1))).length=0+1):=hide (by rw[HPut.out,List.length_append,HQ.out];rfl)
    have HR3:Hid (RngM (foldM 3 (d.take (i+1)))):=hide (by rw[HPut.out];exact RngM.snoc HR.out (HRD.out x (List.mem_of_getElem? HX.out)))
    clear own3 hg3 hat3
    go_wp2
    go_roundw
    case rel=>first | exact⟨i+1,0+1,A',c',by omega,by omega,by first | rfl | go_num,by first | rfl | go_num,HQ3,HO3,HB3,HR3⟩ | ((repeat apply Exists.intro);exact⟨⟨i+1,0+1,A',c',by omega,by omega,by first | rfl | go_num,by first | rfl | go_num,HQ3,HO3,HB3,HR3⟩,rfl⟩)
    case measure=>simp[intOf];omega
   obtain⟨p,hp⟩:∃p,q=p+1:=⟨q-1,by omega⟩
   obtain⟨a,ha⟩:=get_some (d:=foldM 3 (d.take i)) (i:=p) (by have:=HQ.out;omega)
   obtain⟨gg,hA1,q1,q2,q3⟩:=own_addr HOU.out (by omega)
   subst hA1
   have d0:u2.cell? ⟨gg,p*2,none⟩=some (.int .i64 a.1):=(HOU.out.cellAt (p*2) (by omega)).trans (msFlat_get ha 0 _ rfl)
   have d1:u2.cell? ⟨gg,p*2+1,none⟩=some (.int .i64 a.2):=(HOU.out.cellAt (p*2+1) (by omega)).trans (msFlat_get ha 1 _ rfl)
   have f1:=HOU.out.frozenAt (p*2+1)
   have lp:(p:Int)<(q:Int):=by omega
   have lq:0<(q:Int):=by omega
   have lq2:0<q:=by omega
   have e1:(q:Int)-1=(p:Int):=by omega
   have HA:=hide ha
   have HP:=hide hp
   have HQ2:=hide (show (foldM 3 (d.take i)).length=p+1 by rw[HQ.out];exact hp)
   have e2:IntKind.i64.wrap (p:Int)=(p:Int):=i64_nat _ (by omega)
   clear ha hp
   by_cases he:a.1=x.1
   ·have HRa:=hide (HR.out a (List.mem_of_getElem? HA.out))
    have HRx:=hide (HRD.out x (List.mem_of_getElem? HX.out))
    have hab:(a.1 == x.1)=true:=by simp[he]
    rw[he] at d0
    refine wp_region_held_drew (S:=Kept u2) (by kernel_rfl) (Kept.drew u2) (fun hS0=>?_)
    refine tka 0 40 ?_
    refine tka 1 41 ?_
    refine tka 2 42 ?_
    refine tka 3 43 ?_
    refine tka 4 44 ?_
    refine tka 5 45 ?_
    refine tka 6 46 ?_
    refine tka 7 47 ?_
    refine tka 8 48 ?_
    refine tka 9 49 ?_
    refine tka 10 50 ?_
    refine tka 11 51 ?_
    refine tka 12 52 ?_
    refine wpAnyH_done (by kernel_rfl) ?_ _
    clear hS0
    have c0:u2.drew.cell? ⟨wr.heap.size,0,none⟩=some (.int .i64 x.1):=c0
    have c1:u2.drew.cell? ⟨wr.heap.size,1,none⟩=some (.int .i64 x.2):=c1
    have HOD:=hide (HOU.out.drew)
    have HBD:=hide (HBU.out.drew)
    have hzd:wr.heap.size<u2.drew.heap.size:=hl2
    have hzd2:w3.heap.size≤u2.drew.heap.size:=hszu
    have d0:u2.drew.cell? ⟨gg,p*2,none⟩=some (.int .i64 x.1):=d0
    have d1:u2.drew.cell? ⟨gg,p*2+1,none⟩=some (.int .i64 a.2):=d1
    have q2:gg<u2.drew.heap.size:=q2
    clear f1
    obtain⟨y0,hy0⟩:∃y0,u2.drew=y0:=⟨_,rfl⟩
    rw[hy0] at c0 c1 d0 d1 q2 HOD HBD hzd hzd2 ⊢
    clear hy0
    go_upto_region 12 with fail
    refine wpL_region (S:=Kept y0) [18] (by kernel_rfl) (Kept.drew y0) (fun hS0=>?_)
    refine tla 0 53 ?_
    refine tla 1 54 ?_
    refine tla 2 55 ?_
    refine tla 3 56 ?_
    refine tla 4 57 ?_
    refine tla 5 58 ?_
    refine tla 6 59 ?_
    refine tla 7 60 ?_
    refine tla 8 61 ?_
    refine tla 9 62 ?_
    refine tla 10 63 ?_
    refine tla 11 64 ?_
    refine tla 12 65 ?_
    refine tl 13 66 ?_ ?_ ?_;rotate_left;(focus (intro w hSw;have hh:=nil_ways w;go_simp;(try with_reducible rfl);done));(try simp only[zqd,zqe,zqf])
    refine tla 14 67 ?_
    refine cl 15 68 fun K hK=>?_
    go_simp
    go_upon
    refine (lscomb_any _ a.2 x.2).mono ?_
    rintro _ z1 ⟨rfl,hz⟩
    have hS1:Kept y0 z1:=hS0.below (by simp) hz
    have HZ9:=hide hz
    have HO9:=hide (own_below HOD.out.drew hz (fun g hg=>(HOD.out.drew.lt g hg).2))
    have f9:=HO9.out.frozenAt (p*2+1)
    have b9:z1.cell? ⟨gg,p*2+1,none⟩=some (.int .i64 a.2):=(HO9.out.cellAt (p*2+1) (by omega)).trans (msFlat_get HA.out 1 _ rfl)
    clear hz
    go_wp2_with fail
    refine hK.out _ _ hS1 (fun hSn=>?_)
    clear hK K
    try simp only[zqd,zqe,zqf]
    refine twa 16 69 ?_
    refine tla 17 70 ?_
    refine xl 18 fun K hK=>?_
    go_wp2_with fail
    refine hK.out _ _ ?_
    clear hK K
    try simp only[zqd,zqe,zqf]
    refine wpAnyL_done (by kernel_rfl) ?_ _
    have HPut:Hid (foldM 3 (d.take (i+1))=(foldM 3 (d.take i)).set p (a.1,min a.2 x.2)):=hide (by rw[foldM_take 3 HX.out];have h:=putM_same (k:=3) HQ2.out HA.out he;rw[show combF 3 a.2 x.2=min a.2 x.2 by simp[combF]] at h;exact h)
    have hst:=HO9.out.stored (p*2+1) (.int .i64 (min a.2 x.2))
    have hg9:=(HO9.out.lt gg rfl).1
    have HO3:Hid ((z1.setCell ⟨gg,p*2+1,none⟩ (.int .i64 (min a.2 x.2))).ownsRow w3.heap.size 185 2 (.slice (some ⟨gg,0,none⟩) q cm) q (msFlat (foldM 3 (d.take (i+1))))):=hide (by
  rw[HPut.out,flat_set _ (by have:=HQ2.out;omega)]
  have h0:(msFlat (foldM 3 (d.take i)))[p*2]?=some (.int .i64 a.1):=msFlat_get HA.out 0 _ rfl
  dsimp only
  rw[set_same h0]
  exact hst.1)
    have HB3:Hid (Below w3.heap.size w3 (z1.setCell ⟨gg,p*2+1,none⟩ (.int .i64 (min a.2 x.2)))):=hide ((HBD.out.trans ((below_dr0 w3.heap.size y0).trans (HZ9.out.mono hzd2))).setCell (p:=⟨gg,p*2+1,none⟩) hg9 _)
    have HQ3:Hid ((foldM 3 (d.take (i+1))).length=q):=hide (by rw[HPut.out,List.length_set];exact HQ.out)
    have HR3:Hid (RngM (foldM 3 (d.take (i+1)))):=hide (by rw[HPut.out];exact RngM.set HR.out (by have h1:=HRa.out;have h2:=HRx.out;show i64B (min a.2 x.2);unfold i64B at h1 h2 ⊢;omega))
    clear hst hS0 hS1 hSn f9 b9 c0 c1 d0 d1 e1 e2
    go_wp2
    go_roundw
    case rel=>first | exact⟨i+1,q,_,cm,by omega,by omega,by first | rfl | go_num,rfl,HQ3,HO3,HB3,HR3⟩ | ((repeat apply Exists.intro);exact⟨⟨i+1,q,_,cm,by omega,by omega,by first | rfl | go_num,rfl,HQ3,HO3,HB3,HR3⟩,rfl⟩)
    case measure=>simp[intOf];omega
   have HPut:Hid (foldM 3 (d.take (i+1))=foldM 3 (d.take i) ++ [x]):=hide (by rw[foldM_take 3 HX.out];exact putM_far HQ2.out HA.out he)
   have HAcc:Hid True:=hide trivial
   refine wp_region_held_drew (S:=Kept u2) (by kernel_rfl) (Kept.drew u2) (fun hS0=>?_)
   refine tka 0 40 ?_
   refine tka 1 41 ?_
   refine tka 2 42 ?_
   refine tka 3 43 ?_
   refine tka 4 44 ?_
   refine tka 5 45 ?_
   refine tka 6 46 ?_
   refine tka 7 47 ?_
   refine tka 8 48 ?_
   refine tka 9 49 ?_
   refine tka 10 50 ?_
   refine tka 11 51 ?_
   refine tka 12 52 ?_
   refine wpAnyH_done (by kernel_rfl) ?_ _
   clear hS0
   have c0:u2.drew.cell? ⟨wr.heap.size,0,none⟩=some (.int .i64 x.1):=c0
   have c1:u2.drew.cell? ⟨wr.heap.size,1,none⟩=some (.int .i64 x.2):=c1
   have HOD:=hide (HOU.out.drew)
   have HBD:=hide (HBU.out.drew)
   have hzd:wr.heap.size<u2.drew.heap.size:=hl2
   have hzd2:w3.heap.size≤u2.drew.heap.size:=hszu
   clear d0 d1 f1 e1 e2
   obtain⟨y0,hy0⟩:∃y0,u2.drew=y0:=⟨_,rfl⟩
   rw[hy0] at c0 c1 HOD HBD hzd hzd2 ⊢
   clear hy0
   go_wp2_with (at_builtin;refine wpList_app rfl (.tmp 71) (.tmp 73) 166 rfl w3.heap.size 185 i0 (.agg #[.int .i64 0,.int .i64 0]) 2 16 Tryz.underlying166 hi0 hz0 hz1 hz2 rfl (by decide) (.slice (some ⟨gg,0,none⟩) q cm) q _ rfl (HOD.out.alloc _) (y0.heap.size+1) (some ⟨y0.heap.size,0,none⟩) 1 1 [.int .i64 x.1,.int .i64 x.2] rfl rfl (Rd.new _ _ _ _) (by simp[Value.oneCell']) (by unfold maxLen;omega) (by omega) (by simp;omega) ?_)
   intro A' c' y3 own3 hg3 hat3
   have HO3:Hid (y3.ownsRow w3.heap.size 185 2 (.slice A' (q+1) c') (q+1) (msFlat (foldM 3 (d.take (i+1))))):=hide (by rw[HPut.out,←msFlat_app];exact own3)
   have HB3:=hide (app_below (HBD.out.alloc hzd2 _) (HOD.out.alloc _) hg3 (by simp;omega) (Nat.le_refl _))
   have HQ3:Hid ((foldM 3 (d.take (i+1))).length=q+1):=hide (by rw[HPut.out,List.length_append,HQ.out];rfl)
   have HR3:Hid (RngM (foldM 3 (d.take (i+1)))):=hide (by rw[HPut.out];exact RngM.snoc HR.out (HRD.out x (List.mem_of_getElem? HX.out)))
   clear own3 hg3 hat3
   go_wp2
   go_roundw
   case rel=>first | exact⟨i+1,q+1,A',c',by omega,by omega,by first | rfl | go_num,by first | rfl | go_num,HQ3,HO3,HB3,HR3⟩ | ((repeat apply Exists.intro);exact⟨⟨i+1,q+1,A',c',by omega,by omega,by first | rfl | go_num,by first | rfl | go_num,HQ3,HO3,HB3,HR3⟩,rfl⟩)
   case measure=>simp[intOf];omega
  obtain rfl:i=L:=by omega
  have HFin:Hid (SndPost 3 w l (.returned (.slice Am q cm)) wr):=hide (by
  have hf:d.take i=d:=List.take_of_length_le (by rw[HLd.out];exact Nat.le_refl _)
  have ho:=HOw.out
  have hq:=HQ.out
  rw[hf] at ho hq
  exact⟨d,by rw[HLM.out];exact HSt.out,Am,cm,by rw[hq],Mss.of_rd (Rd.of_own ho),HB3.out.trans (HBw.out.mono HB3.out.size),own_new ho (by have:=HB3.out.size;omega)⟩)
  go_wp2
  go_ret
  rw[HLl.out]
  exact HFin.out
theorem nil_labels (w:World):∀n:Nat,Sem.run Tryz.prog (nilAhead (n+8) 132 (.agg #[]) "treadwheel/algos.combine") w = .ok (some false) w:=fun n=>by kernel_rfl
theorem lbMs_len (ch:Bool) (v y:Int) (es fs:List Ed) (n1 n2:Nat) (h1:es.length=n1) (h2:fs.length=n2):(lbMs ch v y es fs).length≤n1+n2:=by
 unfold lbMs
 split
 ·rw[List.length_map];exact nearF_len v es fs n1 n2 h1 h2
 simp
theorem lb_rng (ch:Bool) (v y:Int) (es fs:List Ed) (hy:-9223372036854775808≤y∧y≤9223372036854775807):RngM (lbMs ch v y es fs):=fun m hm=>by
 unfold lbMs at hm
 split at hm
 ·obtain⟨e,_,rfl⟩:=List.mem_map.1 hm
  exact hy
 cases hm
theorem snd2_any (w:World) (j1 j2 j3 j4 v y:Int) (ch:Bool) (A A9:Option Addr) (es fs:List Ed) (Le c Lf c9:Nat) (hL:es.length=Le) (hF:fs.length=Lf) (hE:Eds w w.heap.size A es) (hE9:Eds w w.heap.size A9 fs) (hLe:Le+Lf≤400) (hy:-9223372036854775808≤y∧y≤9223372036854775807) :
  Calls Tryz.prog 94 #[.agg #[.int .u8 2,.int .i64 j1,.int .i64 j2,.int .i64 j3,.int .i64 j4],.int .i64 v,.int .i64 y,.bool ch,.slice A Le c,.slice A9 Lf c9] w (SndPost 2 w (lbMs ch v y es fs)):=by
 obtain⟨i0,hi0,hz0,hz1,hz2⟩:=info_parts (show (Tryz.prog.info? 185).map (fun i=>(i.zero,i.size,i.bytes))=some (some (.agg #[.int .i64 0,.int .i64 0]),2,16) by kernel_rfl)
 obtain⟨u,hu⟩:∃u,w.alloc (.cells #[.int .u8 2,.int .i64 j1,.int .i64 j2,.int .i64 j3,.int .i64 j4] 27)=u:=⟨_,rfl⟩
 have hzu:u.heap.size=w.heap.size+1:=by rw[←hu];simp
 have HBu:Hid (Below w.heap.size w u):=hide (by rw[←hu];exact (Below.refl _ _).alloc (Nat.le_refl _) _)
 have M0:=hide (show u.heap[w.heap.size]?=some (.cells #[.int .u8 2,.int .i64 j1,.int .i64 j2,.int .i64 j3,.int .i64 j4] 27) by rw[←hu];exact heap_alloc_last _ _)
 have HE:=hide (hE.next HBu.out)
 have HE9:=hide (hE9.next HBu.out)
 have HU:=hide hu
 clear hu hE hE9
 obtain⟨c0,c1,c2,c3,c4⟩:=zr5 M0.out
 obtain⟨L,hlM⟩:∃L,(lbMs ch v y es fs).length=L:=⟨_,rfl⟩
 have hLb:L≤400:=by rw[←hlM];exact Nat.le_trans (lbMs_len ch v y es fs Le Lf hL hF) (by omega)
 have HLM:=hide hlM
 have HRG:=hide (lb_rng ch v y es fs hy)
 go_enter Tryz.func94,Tryz.ntmps94
 go_wp2_with fail
 rw[HU.out]
 refine (of2 _ j1 j2 j3 j4).mono ?_
 rintro _ w1 ⟨rfl,hb⟩
 have HE1:=hide (HE.out.next hb)
 have HE91:=hide (HE9.out.next hb)
 have HB1:=hide (HBu.out.trans (hb.mono (by omega)))
 clear hb c0 c1 c2 c3 c4 HE
 go_wp2_with fail
 refine (lbsend_any _ v y ch A A9 es fs Le c Lf c9 hL hF (by omega) (by omega) HE1.out HE91.out).mono ?_
 rintro _ w2 ⟨A2,cp,rfl,own2,hb2⟩
 obtain⟨l,hl⟩:∃l,lbMs ch v y es fs=l:=⟨_,rfl⟩
 rw[hl] at own2 HLM HRG ⊢
 rw[HLM.out] at own2 ⊢
 have HB2:=hide (HB1.out.trans (hb2.mono HB1.out.size))
 have HOwn:=hide own2
 have HLl:=hide hl
 clear own2 hb2 hl hlM
 by_cases hL0:L=0
 ·subst hL0
  have hl0:l=[]:=List.eq_nil_of_length_eq_zero HLM.out
  have HFin:Hid (SndPost 2 w l (.returned (.slice none 0 0)) w2):=hide (by rw[hl0];exact⟨[],⟨Mv.refl _ _ _,fun _=>⟨fun i j x y _ _ h3=>by simp at h3,Stb.refl _ _⟩⟩,none,0,rfl,fun h=>absurd rfl h,HB2.out,NewA.none_ _⟩)
  clear hl0
  go_wp2_with fail
  refine (sort0_any _ A2 cp).mono ?_
  rintro _ w3 ⟨rfl,rfl⟩
  go_wp2
  go_loopw [15,34] (fun v15 v34 wr=>v15 = .slice none 0 0∧v34 = .int .i64 0∧Hid (SndPost 2 w l (.returned (.slice none 0 0)) wr)) (fun _ _ _=>0)
  case atStart=>exact⟨rfl,rfl,HFin⟩
  case round=>
   obtain⟨rfl,rfl,HF⟩:=hrel
   go_wp2
   go_ret
   rw[HLl.out]
   exact HF.out
 obtain⟨g,hA2,g1,g2,g3⟩:=own_addr HOwn.out (by omega)
 subst hA2
 have hsr:SR w2 w1.heap.size g L cp l w2:=⟨HLM.out,HOwn.out,KB.refl _ _,Below.refl _ _⟩
 go_wp2_with fail
 refine (sort_any (fun m:Ms=>m.1) w2 _ w1.heap.size g L cp l hsr (by omega)).mono ?_
 rintro _ w3 ⟨rfl,d,hs3,hst⟩
 have HS3:=hide hs3
 have HSt:=hide hst
 have HLd:=hide hs3.1
 have HRD:Hid (RngM d):=hide (HRG.out.perm hst.1.perm)
 have HB3:Hid (Below w.heap.size w w3):=hide (HB2.out.trans (hs3.2.2.2.mono (by have:=HB1.out.size;omega)))
 clear hs3 hst hsr
 go_wp2
 go_loopw [15,34] (fun v15 v34 wr=>∃(i q:Nat) (Am:Option Addr) (cm:Nat),i≤L∧q≤i∧v34 = .int .i64 (i:Int)∧v15 = .slice Am q cm∧Hid ((foldM 2 (d.take i)).length=q)∧Hid (wr.ownsRow w3.heap.size 185 2 (.slice Am q cm) q (msFlat (foldM 2 (d.take i))))∧Hid (Below w3.heap.size w3 wr)∧Hid (RngM (foldM 2 (d.take i)))) (fun _ v34 _=>L-(intOf v34).toNat)
 case atStart=>exact⟨0,0,none,0,by omega,by omega,rfl,rfl,hide rfl,hide (World.ownsRow_nil _ _ _ _),hide (Below.refl _ _),hide (fun m hm=>by cases hm)⟩
 case round=>
  obtain⟨i,q,Am,cm,hi,hqi,rfl,rfl,HQ,HOw,HBw,HR⟩:=hrel
  have hsz:w3.heap.size≤wr.heap.size:=HBw.out.size
  by_cases hlt:i<L
  ·have hI1:(i:Int)<(L:Int):=by omega
   obtain⟨x,hx⟩:=get_some (d:=d) (i:=i) (by rw[HLd.out];exact hlt)
   obtain⟨p0,p1⟩:=HS3.out.get hx
   have HX:=hide hx
   have lg3:=HS3.out.glt
   have p0:=(HBw.out.cell (p:=⟨g,i*2,none⟩) lg3).trans p0
   have p1:=(HBw.out.cell (p:=⟨g,i*2+1,none⟩) lg3).trans p1
   have lg:g<wr.heap.size:=by omega
   clear hx
   obtain⟨u2,hu2⟩:∃u2,wr.alloc (.cells #[.int .i64 x.1,.int .i64 x.2] 185)=u2:=⟨_,rfl⟩
   have hl2:wr.heap.size<u2.heap.size:=by rw[←hu2];simp
   have N0:=hide (show u2.heap[wr.heap.size]?=some (.cells #[.int .i64 x.1,.int .i64 x.2] 185) by rw[←hu2];exact heap_alloc_last _ _)
   have HBU:Hid (Below w3.heap.size w3 u2):=hide (by rw[←hu2];exact HBw.out.alloc hsz _)
   have HOU:Hid (u2.ownsRow w3.heap.size 185 2 (.slice Am q cm) q (msFlat (foldM 2 (d.take i)))):=hide (by rw[←hu2];exact HOw.out.alloc _)
   have hszu:w3.heap.size≤u2.heap.size:=by omega
   have HU2:=hide hu2
   clear hu2 HOw HBw
   go_upto_region 11 with fail
   rw[HU2.out]
   obtain⟨c0,c1⟩:=zr2 N0.out
   have hcap:=own_cap HOU.out
   clear p0 p1
   by_cases hq0:q=0
   ·subst hq0
    have HPut:Hid (foldM 2 (d.take (i+1))=foldM 2 (d.take i) ++ [x]):=hide (by rw[foldM_take 2 HX.out];exact putM_none HQ.out)
    have HAcc:Hid ((foldM 2 (d.take i)).length=(foldM 2 (d.take i)).length):=hide rfl
    refine wp_region_held_drew (S:=Kept u2) (by kernel_rfl) (Kept.drew u2) (fun hS0=>?_)
    refine tka 0 40 ?_
    refine tka 1 41 ?_
    refine tka 2 42 ?_
    refine ska 3 43 ?_
    refine ska 4 44 ?_
    refine ska 5 45 ?_
    refine ska 6 46 ?_
    refine ska 7 47 ?_
    refine ska 8 48 ?_
    refine ska 9 49 ?_
    refine ska 10 50 ?_
    refine ska 11 51 ?_
    refine tka 12 52 ?_
    refine wpAnyH_done (by kernel_rfl) ?_ _
    clear hS0
    have c0:u2.drew.cell? ⟨wr.heap.size,0,none⟩=some (.int .i64 x.1):=c0
    have c1:u2.drew.cell? ⟨wr.heap.size,1,none⟩=some (.int .i64 x.2):=c1
    have HOD:=hide (HOU.out.drew)
    have HBD:=hide (HBU.out.drew)
    have hzd:wr.heap.size<u2.drew.heap.size:=hl2
    have hzd2:w3.heap.size≤u2.drew.heap.size:=hszu
    obtain⟨y0,hy0⟩:∃y0,u2.drew=y0:=⟨_,rfl⟩
    rw[hy0] at c0 c1 HOD HBD hzd hzd2 ⊢
    clear hy0
    go_wp2_with (at_builtin;refine wpList_app rfl (.tmp 71) (.tmp 73) 166 rfl w3.heap.size 185 i0 (.agg #[.int .i64 0,.int .i64 0]) 2 16 Tryz.underlying166 hi0 hz0 hz1 hz2 rfl (by decide) (.slice Am 0 cm) 0 _ rfl (HOD.out.alloc _) (y0.heap.size+1) (some ⟨y0.heap.size,0,none⟩) 1 1 [.int .i64 x.1,.int .i64 x.2] rfl rfl (Rd.new _ _ _ _) (by simp[Value.oneCell']) (by unfold maxLen;omega) (by omega) (by simp;omega) ?_)
    intro A' c' y3 own3 hg3 hat3
    have HO3:Hid (y3.ownsRow w3.heap.size 185 2 (.slice A' (0+1) c') (0+1) (msFlat (foldM 2 (d.take (i+1))))):=hide (by rw[HPut.out,←msFlat_app];exact own3)
    have HB3:=hide (app_below (HBD.out.alloc hzd2 _) (HOD.out.alloc _) hg3 (by simp;omega) (Nat.le_refl _))
    have HQ3:Hid ((foldM 2 (d.take (i+1))).length=0+1):=hide (by rw[HPut.out,List.length_append,HQ.out];rfl)
    have HR3:Hid (RngM (foldM 2 (d.take (i+1)))):=hide (by rw[HPut.out];exact RngM.snoc HR.out (HRD.out x (List.mem_of_getElem? HX.out)))
    clear own3 hg3 hat3
    go_wp2
    go_roundw
    case rel=>first | exact⟨i+1,0+1,A',c',by omega,by omega,by first | rfl | go_num,by first | rfl | go_num,HQ3,HO3,HB3,HR3⟩ | ((repeat apply Exists.intro);exact⟨⟨i+1,0+1,A',c',by omega,by omega,by first | rfl | go_num,by first | rfl | go_num,HQ3,HO3,HB3,HR3⟩,rfl⟩)
    case measure=>simp[intOf];omega
   obtain⟨p,hp⟩:∃p,q=p+1:=⟨q-1,by omega⟩
   obtain⟨a,ha⟩:=get_some (d:=foldM 2 (d.take i)) (i:=p) (by have:=HQ.out;omega)
   obtain⟨gg,hA1,q1,q2,q3⟩:=own_addr HOU.out (by omega)
   subst hA1
   have d0:u2.cell? ⟨gg,p*2,none⟩=some (.int .i64 a.1):=(HOU.out.cellAt (p*2) (by omega)).trans (msFlat_get ha 0 _ rfl)
   have d1:u2.cell? ⟨gg,p*2+1,none⟩=some (.int .i64 a.2):=(HOU.out.cellAt (p*2+1) (by omega)).trans (msFlat_get ha 1 _ rfl)
   have f1:=HOU.out.frozenAt (p*2+1)
   have lp:(p:Int)<(q:Int):=by omega
   have lq:0<(q:Int):=by omega
   have lq2:0<q:=by omega
   have e1:(q:Int)-1=(p:Int):=by omega
   have HA:=hide ha
   have HP:=hide hp
   have HQ2:=hide (show (foldM 2 (d.take i)).length=p+1 by rw[HQ.out];exact hp)
   have e2:IntKind.i64.wrap (p:Int)=(p:Int):=i64_nat _ (by omega)
   clear ha hp
   by_cases he:a.1=x.1
   ·have HRa:=hide (HR.out a (List.mem_of_getElem? HA.out))
    have HRx:=hide (HRD.out x (List.mem_of_getElem? HX.out))
    have hab:(a.1 == x.1)=true:=by simp[he]
    rw[he] at d0
    refine wp_region_held_drew (S:=Kept u2) (by kernel_rfl) (Kept.drew u2) (fun hS0=>?_)
    refine tka 0 40 ?_
    refine tka 1 41 ?_
    refine tka 2 42 ?_
    refine tka 3 43 ?_
    refine tka 4 44 ?_
    refine tka 5 45 ?_
    refine tka 6 46 ?_
    refine tka 7 47 ?_
    refine tka 8 48 ?_
    refine tka 9 49 ?_
    refine tka 10 50 ?_
    refine tka 11 51 ?_
    refine tka 12 52 ?_
    refine wpAnyH_done (by kernel_rfl) ?_ _
    clear hS0
    have c0:u2.drew.cell? ⟨wr.heap.size,0,none⟩=some (.int .i64 x.1):=c0
    have c1:u2.drew.cell? ⟨wr.heap.size,1,none⟩=some (.int .i64 x.2):=c1
    have HOD:=hide (HOU.out.drew)
    have HBD:=hide (HBU.out.drew)
    have hzd:wr.heap.size<u2.drew.heap.size:=hl2
    have hzd2:w3.heap.size≤u2.drew.heap.size:=hszu
    have d0:u2.drew.cell? ⟨gg,p*2,none⟩=some (.int .i64 x.1):=d0
    have d1:u2.drew.cell? ⟨gg,p*2+1,none⟩=some (.int .i64 a.2):=d1
    have q2:gg<u2.drew.heap.size:=q2
    clear f1
    obtain⟨y0,hy0⟩:∃y0,u2.drew=y0:=⟨_,rfl⟩
    rw[hy0] at c0 c1 d0 d1 q2 HOD HBD hzd hzd2 ⊢
    clear hy0
    go_upto_region 12 with fail
    refine wpL_region (S:=Kept y0) [18] (by kernel_rfl) (Kept.drew y0) (fun hS0=>?_)
    refine tla 0 53 ?_
    refine tla 1 54 ?_
    refine tla 2 55 ?_
    refine tla 3 56 ?_
    refine tla 4 57 ?_
    refine tla 5 58 ?_
    refine tla 6 59 ?_
    refine tla 7 60 ?_
    refine tla 8 61 ?_
    refine tla 9 62 ?_
    refine tla 10 63 ?_
    refine tla 11 64 ?_
    refine tla 12 65 ?_
    refine tl 13 66 ?_ ?_ ?_;rotate_left;(focus (intro w hSw;have hh:=nil_labels w;go_simp;(try with_reducible rfl);done));(try simp only[zqd,zqe,zqf])
    refine tla 14 67 ?_
    refine cl 15 68 fun K hK=>?_
    go_simp
    go_upon
    refine (lscomb_any _ a.2 x.2).mono ?_
    rintro _ z1 ⟨rfl,hz⟩
    have hS1:Kept y0 z1:=hS0.below (by simp) hz
    have HZ9:=hide hz
    have HO9:=hide (own_below HOD.out.drew hz (fun g hg=>(HOD.out.drew.lt g hg).2))
    have f9:=HO9.out.frozenAt (p*2+1)
    have b9:z1.cell? ⟨gg,p*2+1,none⟩=some (.int .i64 a.2):=(HO9.out.cellAt (p*2+1) (by omega)).trans (msFlat_get HA.out 1 _ rfl)
    clear hz
    go_wp2_with fail
    refine hK.out _ _ hS1 (fun hSn=>?_)
    clear hK K
    try simp only[zqd,zqe,zqf]
    refine twa 16 69 ?_
    refine tla 17 70 ?_
    refine xl 18 fun K hK=>?_
    go_wp2_with fail
    refine hK.out _ _ ?_
    clear hK K
    try simp only[zqd,zqe,zqf]
    refine wpAnyL_done (by kernel_rfl) ?_ _
    have HPut:Hid (foldM 2 (d.take (i+1))=(foldM 2 (d.take i)).set p (a.1,min a.2 x.2)):=hide (by rw[foldM_take 2 HX.out];have h:=putM_same (k:=2) HQ2.out HA.out he;rw[show combF 2 a.2 x.2=min a.2 x.2 by simp[combF]] at h;exact h)
    have hst:=HO9.out.stored (p*2+1) (.int .i64 (min a.2 x.2))
    have hg9:=(HO9.out.lt gg rfl).1
    have HO3:Hid ((z1.setCell ⟨gg,p*2+1,none⟩ (.int .i64 (min a.2 x.2))).ownsRow w3.heap.size 185 2 (.slice (some ⟨gg,0,none⟩) q cm) q (msFlat (foldM 2 (d.take (i+1))))):=hide (by
  rw[HPut.out,flat_set _ (by have:=HQ2.out;omega)]
  have h0:(msFlat (foldM 2 (d.take i)))[p*2]?=some (.int .i64 a.1):=msFlat_get HA.out 0 _ rfl
  dsimp only
  rw[set_same h0]
  exact hst.1)
    have HB3:Hid (Below w3.heap.size w3 (z1.setCell ⟨gg,p*2+1,none⟩ (.int .i64 (min a.2 x.2)))):=hide ((HBD.out.trans ((below_dr0 w3.heap.size y0).trans (HZ9.out.mono hzd2))).setCell (p:=⟨gg,p*2+1,none⟩) hg9 _)
    have HQ3:Hid ((foldM 2 (d.take (i+1))).length=q):=hide (by rw[HPut.out,List.length_set];exact HQ.out)
    have HR3:Hid (RngM (foldM 2 (d.take (i+1)))):=hide (by rw[HPut.out];exact RngM.set HR.out (by have h1:=HRa.out;have h2:=HRx.out;show i64B (min a.2 x.2);unfold i64B at h1 h2 ⊢;omega))
    clear hst hS0 hS1 hSn f9 b9 c0 c1 d0 d1 e1 e2
    go_wp2
    go_roundw
    case rel=>first | exact⟨i+1,q,_,cm,by omega,by omega,by first | rfl | go_num,rfl,HQ3,HO3,HB3,HR3⟩ | ((repeat apply Exists.intro);exact⟨⟨i+1,q,_,cm,by omega,by omega,by first | rfl | go_num,rfl,HQ3,HO3,HB3,HR3⟩,rfl⟩)
    case measure=>simp[intOf];omega
   have HPut:Hid (foldM 2 (d.take (i+1))=foldM 2 (d.take i) ++ [x]):=hide (by rw[foldM_take 2 HX.out];exact putM_far HQ2.out HA.out he)
   have HAcc:Hid True:=hide trivial
   refine wp_region_held_drew (S:=Kept u2) (by kernel_rfl) (Kept.drew u2) (fun hS0=>?_)
   refine tka 0 40 ?_
   refine tka 1 41 ?_
   refine tka 2 42 ?_
   refine tka 3 43 ?_
   refine tka 4 44 ?_
   refine tka 5 45 ?_
   refine tka 6 46 ?_
   refine tka 7 47 ?_
   refine tka 8 48 ?_
   refine tka 9 49 ?_
   refine tka 10 50 ?_
   refine tka 11 51 ?_
   refine tka 12 52 ?_
   refine wpAnyH_done (by kernel_rfl) ?_ _
   clear hS0
   have c0:u2.drew.cell? ⟨wr.heap.size,0,none⟩=some (.int .i64 x.1):=c0
   have c1:u2.drew.cell? ⟨wr.heap.size,1,none⟩=some (.int .i64 x.2):=c1
   have HOD:=hide (HOU.out.drew)
   have HBD:=hide (HBU.out.drew)
   have hzd:wr.heap.size<u2.drew.heap.size:=hl2
   have hzd2:w3.heap.size≤u2.drew.heap.size:=hszu
   clear d0 d1 f1 e1 e2
   obtain⟨y0,hy0⟩:∃y0,u2.drew=y0:=⟨_,rfl⟩
   rw[hy0] at c0 c1 HOD HBD hzd hzd2 ⊢
   clear hy0
   go_wp2_with (at_builtin;refine wpList_app rfl (.tmp 71) (.tmp 73) 166 rfl w3.heap.size 185 i0 (.agg #[.int .i64 0,.int .i64 0]) 2 16 Tryz.underlying166 hi0 hz0 hz1 hz2 rfl (by decide) (.slice (some ⟨gg,0,none⟩) q cm) q _ rfl (HOD.out.alloc _) (y0.heap.size+1) (some ⟨y0.heap.size,0,none⟩) 1 1 [.int .i64 x.1,.int .i64 x.2] rfl rfl (Rd.new _ _ _ _) (by simp[Value.oneCell']) (by unfold maxLen;omega) (by omega) (by simp;omega) ?_)
   intro A' c' y3 own3 hg3 hat3
   have HO3:Hid (y3.ownsRow w3.heap.size 185 2 (.slice A' (q+1) c') (q+1) (msFlat (foldM 2 (d.take (i+1))))):=hide (by rw[HPut.out,←msFlat_app];exact own3)
   have HB3:=hide (app_below (HBD.out.alloc hzd2 _) (HOD.out.alloc _) hg3 (by simp;omega) (Nat.le_refl _))
   have HQ3:Hid ((foldM 2 (d.take (i+1))).length=q+1):=hide (by rw[HPut.out,List.length_append,HQ.out];rfl)
   have HR3:Hid (RngM (foldM 2 (d.take (i+1)))):=hide (by rw[HPut.out];exact RngM.snoc HR.out (HRD.out x (List.mem_of_getElem? HX.out)))
   clear own3 hg3 hat3
   go_wp2
   go_roundw
   case rel=>first | exact⟨i+1,q+1,A',c',by omega,by omega,by first | rfl | go_num,by first | rfl | go_num,HQ3,HO3,HB3,HR3⟩ | ((repeat apply Exists.intro);exact⟨⟨i+1,q+1,A',c',by omega,by omega,by first | rfl | go_num,by first | rfl | go_num,HQ3,HO3,HB3,HR3⟩,rfl⟩)
   case measure=>simp[intOf];omega
  obtain rfl:i=L:=by omega
  have HFin:Hid (SndPost 2 w l (.returned (.slice Am q cm)) wr):=hide (by
  have hf:d.take i=d:=List.take_of_length_le (by rw[HLd.out];exact Nat.le_refl _)
  have ho:=HOw.out
  have hq:=HQ.out
  rw[hf] at ho hq
  exact⟨d,by rw[HLM.out];exact HSt.out,Am,cm,by rw[hq],Mss.of_rd (Rd.of_own ho),HB3.out.trans (HBw.out.mono HB3.out.size),own_new ho (by have:=HB3.out.size;omega)⟩)
  go_wp2
  go_ret
  rw[HLl.out]
  exact HFin.out
end Go.Proofs.YtpojjmbalgmcoaaGreat

/- Lemmas: Pa1, Mmn. -/
import Derived.Test.YtgbahnlgblahpaaGreatProg
import Derived.Deep.Strs
import Derived.Test.YtgbahnlgblahpaaGreatMkWw37
set_option linter.unusedVariables false
set_option linter.unusedSimpArgs false
set_option maxRecDepth 100000
set_option maxHeartbeats 16000000
namespace Go.Proofs.YtgbahnlgblahpaaGreat
open Go.RowKit Go.Shelf
attribute [local go_sem] Oper.semAt_some
theorem okFrom_all {V:Int} {es:List Ed} (h:okFrom V es 0=true) {e:Ed} (he:e∈es):0≤e.1∧e.1<V∧0≤e.2.1∧e.2.1<V∧0≤e.2.2∧e.2.2<2147483648:=by
 obtain⟨i,hi⟩:=List.getElem?_of_mem he
 have hl:=(List.getElem?_eq_some_iff.1 hi).1
 unfold okFrom at h
 have h1:=List.all_eq_true.1 h i (by rw[List.mem_range];omega)
 rw[Nat.zero_add] at h1
 unfold okAt at h1
 rw[hi] at h1
 have h2:fitsE e V=true:=by
  cases hf:fitsE e V with
  | true=>rfl
  | false=>dsimp only at h1;rw[hf] at h1;simp at h1
 unfold fitsE fitsB at h2
 simp only[Bool.and_eq_true,decide_eq_true_eq] at h2
 omega
theorem checkF_ok {V:Int} {es:List Ed} (h:checkF V es=0):1≤V∧V≤512∧es.length≤8192∧okFrom V es 0=true:=by
 unfold checkF at h
 split at h
 ·cases h
 split at h
 ·cases h
 split at h
 ·exact⟨by omega,by omega,by omega,‹_›⟩
 cases h
theorem acheck_ok {k j1 j2 j3 j4 V:Int} {es:List Ed} (h:acheckF k j1 j2 j3 j4 V es=0):(1≤V∧V≤512∧edsB es)∧(k=1∨k=2∨k=3)∧0≤j1∧j1≤2000:=by
 unfold acheckF at h
 split at h
 ·rename_i h1
  exact absurd h h1
 rename_i h1
 have h2:=checkF_ok (Decidable.not_not.1 h1)
 split at h
 ·rename_i h3
  refine⟨⟨h2.1,h2.2.1,fun e he=>?_⟩,h3.1,h3.2.1,h3.2.2.1⟩
  have:=okFrom_all h2.2.2.2 he
  unfold i64V
  omega
 cases h
theorem allocs4 {w u:World} {o0 o1 o2 o3:Obj} (h:(((w.alloc o0).alloc o1).alloc o2).alloc o3=u):Below w.heap.size w u∧u.heap.size=w.heap.size+4∧u.heap[w.heap.size]?=some o0∧u.heap[w.heap.size+1]?=some o1∧u.heap[w.heap.size+2]?=some o2∧u.heap[w.heap.size+3]?=some o3:=by
 have h3:=allocs3 (w:=w) (o0:=o0) (o1:=o1) (o2:=o2) rfl
 subst h
 refine⟨h3.1.alloc (by omega) _,by rw[World.size_alloc];omega,(Below.heap_alloc _ _ _ (by omega)).trans h3.2.2.1,(Below.heap_alloc _ _ _ (by omega)).trans h3.2.2.2.1,(Below.heap_alloc _ _ _ (by omega)).trans h3.2.2.2.2,?_⟩
 have:=heap_alloc_last (((w.alloc o0).alloc o1).alloc o2) o3
 rwa [h3.2.1] at this
def firstN (p:Nat→Bool):Nat→Nat
 | 0=>0
 | f+1=>if p 0=true then 0 else firstN (fun n=>p (n+1)) f+1
theorem firstN_spec:∀(f:Nat) (p:Nat→Bool),p f=true→p (firstN p f)=true∧firstN p f≤f∧∀n,n<firstN p f→p n=false
 | 0,p,h=>⟨h,Nat.le_refl _,fun n hn=>absurd hn (Nat.not_lt_zero n)⟩
 | f+1,p,h=>by
  unfold firstN
  by_cases h0:p 0=true
  ·rw[if_pos h0]
   exact⟨h0,Nat.zero_le _,fun n hn=>absurd hn (Nat.not_lt_zero n)⟩
  rw[if_neg h0]
  have ih:=firstN_spec f (fun n=>p (n+1)) h
  refine⟨ih.1,by omega,fun n hn=>?_⟩
  cases n with
  | zero=>simpa using h0
  | succ n=>exact ih.2.2 n (by omega)
def runN (k j1 j2 j3 j4:Int) (es:List Ed) (V:Nat):Nat:=firstN (fun n=>doneF k j1 j4 (atV k j2 j3 es V n).st (atV k j2 j3 es V n).mo) j1.toNat
theorem runN_spec {k j1 j2 j3 j4:Int} {es:List Ed} {V:Nat} (hk:k=1∨k=2∨k=3) (h0:0≤j1):doneF k j1 j4 (atV k j2 j3 es V (runN k j1 j2 j3 j4 es V)).st (atV k j2 j3 es V (runN k j1 j2 j3 j4 es V)).mo=true∧runN k j1 j2 j3 j4 es V≤j1.toNat∧∀n,n<runN k j1 j2 j3 j4 es V→doneF k j1 j4 (atV k j2 j3 es V n).st (atV k j2 j3 es V n).mo=false:=by
 refine firstN_spec j1.toNat (fun n=>doneF k j1 j4 (atV k j2 j3 es V n).st (atV k j2 j3 es V n).mo) ?_
 show doneF k j1 j4 (atV k j2 j3 es V j1.toNat).st _=true
 rw[atV_st]
 have hj:j1≤(j1.toNat:Int):=by omega
 unfold doneF
 generalize (j1.toNat:Int)=q at hj ⊢
 rcases hk with h | h | h <;> subst h <;> simp[hj]
def atE (E kk:Int):Int:=if E≠0 then E else if kk<0∨2000<kk then 4 else 0
theorem build_err_in (n:Nat) (hn:3≤n) (w:World) (V:Int) (A:Option Addr) (es:List Ed) (L c:Nat) (hL:es.length=L) (hL9:L≤9223372036854775807) (hE:Eds w w.heap.size A es) (k j1 j2 j3 j4:Int) (hne:acheckF k j1 j2 j3 j4 V es≠0) :
  CallsIn Fence.wide n Tryz.prog 47 #[.agg #[.int .i64 V,.slice A L c],.agg #[.int .u8 k,.int .i64 j1,.int .i64 j2,.int .i64 j3,.int .i64 j4]] w (fun e w'=>e = .returned (.tuple #[.pointer none,.int .i64 (acheckF k j1 j2 j3 j4 V es)])∧Below w.heap.size w w'):=by
 have h1:1≤n:=by omega
 have HCK:=hide (acheck_any ((w.alloc (.cells #[.int .i64 V,.slice A L c] 24)).alloc (.cells #[.int .u8 k,.int .i64 j1,.int .i64 j2,.int .i64 j3,.int .i64 j4] 26)) k j1 j2 j3 j4 V A es L c hL (Els.more (hE.below (((Below.refl w.heap.size w).alloc (Nat.le_refl _) _).alloc (by simp) _) (Nat.le_refl _)) (by simp;omega)) (by omega))
 refine callsIn_of_wp_marks Tryz.func47 rfl trivial ?_ rfl
 simp only[Tryz.ntmps47,List.size_toArray,List.length_cons,List.length_nil,Nat.reduceAdd,Nat.reduceSub,Array.replicate_succ,Array.replicate_zero,List.push_toArray,List.append_toArray,List.nil_append,List.cons_append]
 obtain⟨u,hu⟩:∃u,(w.alloc (.cells #[.int .i64 V,.slice A L c] 24)).alloc (.cells #[.int .u8 k,.int .i64 j1,.int .i64 j2,.int .i64 j3,.int .i64 j4] 26)=u:=⟨_,rfl⟩
 have HBu:=hide (show Below w.heap.size w u by rw[←hu];exact ((Below.refl _ _).alloc (Nat.le_refl _) _).alloc (by simp) _)
 have hzu:w.heap.size+1<u.heap.size:=by rw[←hu];simp
 have M0:=hide (show u.heap[w.heap.size]?=some (.cells #[.int .i64 V,.slice A L c] 24) by rw[←hu];exact (Below.heap_alloc _ _ _ (by simp)).trans (heap_alloc_last w _))
 have M1:=hide (show u.heap[w.heap.size+1]?=some (.cells #[.int .u8 k,.int .i64 j1,.int .i64 j2,.int .i64 j3,.int .i64 j4] 26) by rw[←hu];have h:=heap_alloc_last (w.alloc (.cells #[.int .i64 V,.slice A L c] 24)) (.cells #[.int .u8 k,.int .i64 j1,.int .i64 j2,.int .i64 j3,.int .i64 j4] 26);rw[World.size_alloc] at h;exact h)
 rw[hu] at HCK
 have HU:=hide hu
 have HE:=hide hE
 have HL:=hide hL
 clear hu hE hL
 have HNE:=hide hne
 clear hne
 obtain⟨E,hEe⟩:∃E,acheckF k j1 j2 j3 j4 V es=E:=⟨_,rfl⟩
 rw[hEe] at HCK HNE ⊢
 clear hEe
 have hE0:=HNE.out
 have c0:=cell_of_row _ _ 0 _ _ _ M0.out
 have c1:=cell_of_row _ _ 1 _ _ _ M0.out
 obtain⟨d0,d1,d2,d3,d4⟩:=zr5 M1.out
 have b0:u.cell? ⟨w.heap.size,0,none⟩=some (.int .i64 V):=c0
 have b1:u.cell? ⟨w.heap.size,1,none⟩=some (.slice A L c):=c1
 clear c0 c1
 gi_wp2_with fail
 rw[HU.out]
 refine⟨trivial,?_⟩
 refine (callsIn_wide.2 HCK.out).mono ?_
 rintro e y ⟨rfl,hy⟩
 have HY:=hide hy
 have hyz:=hy.size
 clear hy HCK b0 b1 d0 d1 d2 d3 d4
 have hE1:(E == 0)=false:=by simpa using hE0
 have hE2:(E != 0)=true:=by simpa using hE0
 have HN:=hide hE0
 clear hE0
 have HF:=hide (HBu.out.trans (HY.out.mono (by omega)))
 gi_wp2
 exact⟨_,results_tmp2 rfl _ _ _,rfl,HF.out⟩
theorem build_err (w:World) (V:Int) (A:Option Addr) (es:List Ed) (L c:Nat) (hL:es.length=L) (hL9:L≤9223372036854775807) (hE:Eds w w.heap.size A es) (k j1 j2 j3 j4:Int) (hne:acheckF k j1 j2 j3 j4 V es≠0) :
  Calls Tryz.prog 47 #[.agg #[.int .i64 V,.slice A L c],.agg #[.int .u8 k,.int .i64 j1,.int .i64 j2,.int .i64 j3,.int .i64 j4]] w (fun e w'=>e = .returned (.tuple #[.pointer none,.int .i64 (acheckF k j1 j2 j3 j4 V es)])∧Below w.heap.size w w'):=
 (callsIn_wide (n:=3)).1 (build_err_in 3 (Nat.le_refl _) w V A es L c hL hL9 hE k j1 j2 j3 j4 hne)
theorem till_err (w:World) (V:Int) (A:Option Addr) (es:List Ed) (L c:Nat) (hL:es.length=L) (hL9:L≤9223372036854775807) (hE:Eds w w.heap.size A es) (k j1 j2 j3 j4:Int) (hne:acheckF k j1 j2 j3 j4 V es≠0) (fv:Value) :
  Calls Tryz.prog 27 #[.agg #[.int .i64 V,.slice A L c],.agg #[.int .u8 k,.int .i64 j1,.int .i64 j2,.int .i64 j3,.int .i64 j4],fv] w (fun e w'=>e = .returned (.tuple #[.agg #[.int .i64 0,.slice none 0 0,.slice none 0 0,.slice none 0 0,.int .i64 0,.int .i64 0],.int .i64 (acheckF k j1 j2 j3 j4 V es)])∧Below w.heap.size w w'):=by
 have HL:=hide hL
 have HE:=hide hE
 have HNE:=hide hne
 obtain⟨E,hEe⟩:∃E,acheckF k j1 j2 j3 j4 V es=E:=⟨_,rfl⟩
 have HEe:=hide hEe
 have HN0:Hid (E≠0):=hide (by rw[←hEe];exact hne)
 rw[hEe]
 clear hL hE hne hEe
 go_enter Tryz.func27,Tryz.ntmps27
 go_upto_region 1 with fail
 obtain⟨u,hu⟩:∃u,((w.alloc (.cells #[.int .i64 V,.slice A L c] 24)).alloc (.cells #[.int .u8 k,.int .i64 j1,.int .i64 j2,.int .i64 j3,.int .i64 j4] 26)).alloc (.cells #[.int .i64 0,.slice none 0 0,.slice none 0 0,.slice none 0 0,.int .i64 0,.int .i64 0] 35)=u:=⟨_,rfl⟩
 rw[hu]
 have HU:=hide (allocs3 hu)
 clear hu
 have hzu:u.heap.size=w.heap.size+3:=HU.out.2.1
 have hz0:w.heap.size<u.heap.size:=by omega
 have hz1:w.heap.size+1<u.heap.size:=by omega
 obtain⟨c0,c1⟩:=zr2 HU.out.2.2.1
 obtain⟨d0,d1,d2,d3,d4⟩:=zr5 HU.out.2.2.2.1
 have hb0:=build_err u V A es L c HL.out hL9 ((HE.out.below HU.out.1 (Nat.le_refl _)).more HU.out.1.size) k j1 j2 j3 j4 HNE.out
 rw[HEe.out] at hb0
 have HB0:=hide hb0
 clear hb0
 go_wp2_with fail
 refine HB0.out.mono ?_
 rintro e y ⟨rfl,hb⟩
 have hE0:=HN0.out
 clear c0 c1 d0 d1 d2 d3 d4 hz0 hz1
 have hE1:(E == 0)=false:=by simpa using hE0
 have hE2:(E != 0)=true:=by simpa using hE0
 have HBy:=hide hb
 have syu:u.heap.size≤y.heap.size:=hb.size
 clear hE0 hb
 have HRy:=hide ((HBy.out.block (w.heap.size+2) (by omega)).trans HU.out.2.2.2.2)
 have hRz:w.heap.size+1+1<y.heap.size:=by omega
 obtain⟨q0,q1,q2,q3,q4,q5⟩:=zr6 HRy.out
 have zq:=zf HRy.out;have f0:=zq 0;have f1:=zq 1;have f2:=zq 2;have f3:=zq 3;have f4:=zq 4;have f5:=zq 5;clear zq
 go_wp2
 obtain⟨wf,hwf⟩:∃q,(((((y.setCell ⟨w.heap.size+1+1,0,none⟩ (.int .i64 0)).setCell ⟨w.heap.size+1+1,1,none⟩ (.slice none 0 0)).setCell ⟨w.heap.size+1+1,2,none⟩ (.slice none 0 0)).setCell ⟨w.heap.size+1+1,3,none⟩ (.slice none 0 0)).setCell ⟨w.heap.size+1+1,4,none⟩ (.int .i64 0)).setCell ⟨w.heap.size+1+1,5,none⟩ (.int .i64 0)=q:=⟨_,rfl⟩
 have hF:=far6 y (w.heap.size+1+1) (w.heap.size+1+1) (.int .i64 0) (.slice none 0 0) (.slice none 0 0) (.slice none 0 0) (.int .i64 0) (.int .i64 0) HRy.out
 rw[hwf] at hF ⊢
 obtain⟨FF,HY⟩:=hF
 obtain⟨y0,y1,y2,y3,y4,y5⟩:=cells6 HY
 clear hwf HY
 exact bodyPost_ret (v:=.tuple #[.agg #[.int .i64 0,.slice none 0 0,.slice none 0 0,.slice none 0 0,.int .i64 0,.int .i64 0],.int .i64 E]) (by simp[results,Tryz.results27,go_sem,y0,y1,y2,y3,y4,y5]) rfl ⟨rfl,(HU.out.1.trans (HBy.out.mono (by omega))).trans (FF.below (by omega) (by omega))⟩
theorem qrun_any (w:World) (V:Int) (A:Option Addr) (es:List Ed) (L c:Nat) (hL:es.length=L) (hL9:L≤9223372036854775807) (hE:Eds w w.heap.size A es) (k j1 j2 j3 j4:Int)  (hG:acheckF k j1 j2 j3 j4 V es=0→L≤100∧V≤16) :
  Calls Tryz.prog 10 #[.agg #[.int .i64 V,.slice A L c],.agg #[.int .u8 k,.int .i64 j1,.int .i64 j2,.int .i64 j3,.int .i64 j4]] w (TillPost w (acheckF k j1 j2 j3 j4 V es) V.toNat (atV k j2 j3 es V.toNat (runN k j1 j2 j3 j4 es V.toNat))):=by
 have HL:=hide hL
 have HE:=hide hE
 have HG:=hide hG
 clear hL hE hG
 obtain⟨E,hEe⟩:∃E,acheckF k j1 j2 j3 j4 V es=E:=⟨_,rfl⟩
 by_cases hE0:E=0
 rotate_left
 ·have HN0:=hide hE0
  have HNE:Hid (acheckF k j1 j2 j3 j4 V es≠0):=hide (by rw[hEe];exact hE0)
  have HEe:=hide hEe
  clear hEe hE0
  rw[HEe.out]
  go_enter Tryz.func10,Tryz.ntmps10
  go_upto_region 1 with fail
  obtain⟨u,hu⟩:∃u,((w.alloc (.cells #[.int .i64 V,.slice A L c] 24)).alloc (.cells #[.int .u8 k,.int .i64 j1,.int .i64 j2,.int .i64 j3,.int .i64 j4] 26)).alloc (.cells #[.int .i64 0,.slice none 0 0,.slice none 0 0,.slice none 0 0,.int .i64 0,.int .i64 0] 35)=u:=⟨_,rfl⟩
  rw[hu]
  have HU:=hide (allocs3 hu)
  clear hu
  have hzu:u.heap.size=w.heap.size+3:=HU.out.2.1
  have HEy:=hide ((HE.out.below HU.out.1 (Nat.le_refl _)).more HU.out.1.size)
  have HBw:=hide HU.out.1
  have HRw:=hide HU.out.2.2.2.2
  obtain⟨c0,c1⟩:=zr2 HU.out.2.2.1
  obtain⟨d0,d1,d2,d3,d4⟩:=zr5 HU.out.2.2.2.1
  have hz0:w.heap.size<u.heap.size:=by omega
  have hz1:w.heap.size+1<u.heap.size:=by omega
  go_wp2_with fail
  refine (till_err u V A es L c HL.out hL9 HEy.out k j1 j2 j3 j4 HNE.out _).mono ?_
  rw[HEe.out]
  rintro e z ⟨rfl,hz⟩
  have HZ:=hide hz
  have szz:u.heap.size≤z.heap.size:=hz.size
  clear hz
  clear c0 c1 d0 d1 d2 d3 d4 hz0 hz1
  have HRow:=hide ((HZ.out.block (w.heap.size+2) (by omega)).trans HRw.out)
  have hRz:w.heap.size+1+1<z.heap.size:=by omega
  obtain⟨q0,q1,q2,q3,q4,q5⟩:=zr6 HRow.out
  have zq:=zf HRow.out;have f0:=zq 0;have f1:=zq 1;have f2:=zq 2;have f3:=zq 3;have f4:=zq 4;have f5:=zq 5;clear zq
  go_wp2
  obtain⟨wf,hwf⟩:∃q,(((((z.setCell ⟨w.heap.size+1+1,0,none⟩ (.int .i64 0)).setCell ⟨w.heap.size+1+1,1,none⟩ (.slice none 0 0)).setCell ⟨w.heap.size+1+1,2,none⟩ (.slice none 0 0)).setCell ⟨w.heap.size+1+1,3,none⟩ (.slice none 0 0)).setCell ⟨w.heap.size+1+1,4,none⟩ (.int .i64 0)).setCell ⟨w.heap.size+1+1,5,none⟩ (.int .i64 0)=q:=⟨_,rfl⟩
  have hF:=far6 z (w.heap.size+1+1) (w.heap.size+1+1) (.int .i64 0) (.slice none 0 0) (.slice none 0 0) (.slice none 0 0) (.int .i64 0) (.int .i64 0) HRow.out
  rw[hwf] at hF ⊢
  obtain⟨FF,HY⟩:=hF
  obtain⟨y0,y1,y2,y3,y4,y5⟩:=cells6 HY
  clear hwf HY
  exact bodyPost_ret (v:=.tuple #[.agg #[.int .i64 0,.slice none 0 0,.slice none 0 0,.slice none 0 0,.int .i64 0,.int .i64 0],.int .i64 E]) (by simp[results,Tryz.results10,go_sem,y0,y1,y2,y3,y4,y5]) rfl (.inl ⟨HN0.out,rfl,(HBw.out.trans (HZ.out.mono (by omega))).trans (FF.below (by omega) (by omega))⟩)
 subst hE0
 have HEe:=hide hEe
 obtain⟨⟨hV1,hV,hEB⟩,hk,hj0,hj1⟩:=acheck_ok hEe
 have hL5:=(HG.out hEe).1
 have hV16:V≤16:=by have:=(HG.out hEe).2;omega
 clear hEe
 rw[HEe.out]
 obtain⟨V,rfl⟩:∃q:Nat,V=(q:Int):=⟨V.toNat,by omega⟩
 rw[show ((V:Int)).toNat=V from rfl]
 have hV16:V≤16:=by omega
 have hV:V≤512:=by omega
 have hr:=runN_spec (j2:=j2) (j3:=j3) (j4:=j4) (es:=es) (V:=V) hk hj0
 obtain⟨N,hNe⟩:∃q,runN k j1 j2 j3 j4 es V=q:=⟨_,rfl⟩
 rw[hNe] at hr ⊢
 have HR3:=hide hr
 have hN:N≤2000:=by have:=hr.2.1;omega
 clear hr hNe hk hj0 hj1
 go_enter Tryz.func10,Tryz.ntmps10
 go_upto_region 1 with fail
 obtain⟨u,hu⟩:∃u,((w.alloc (.cells #[.int .i64 (V:Int),.slice A L c] 24)).alloc (.cells #[.int .u8 k,.int .i64 j1,.int .i64 j2,.int .i64 j3,.int .i64 j4] 26)).alloc (.cells #[.int .i64 0,.slice none 0 0,.slice none 0 0,.slice none 0 0,.int .i64 0,.int .i64 0] 35)=u:=⟨_,rfl⟩
 rw[hu]
 have HU:=hide (allocs3 hu)
 clear hu
 have hzu:u.heap.size=w.heap.size+3:=HU.out.2.1
 have HEy:=hide ((HE.out.below HU.out.1 (Nat.le_refl _)).more HU.out.1.size)
 have HBw:=hide HU.out.1
 have HRw:=hide HU.out.2.2.2.2
 obtain⟨c0,c1⟩:=zr2 HU.out.2.2.1
 obtain⟨d0,d1,d2,d3,d4⟩:=zr5 HU.out.2.2.2.1
 have hz0:w.heap.size<u.heap.size:=by omega
 have hz1:w.heap.size+1<u.heap.size:=by omega
 go_wp2_with fail
 refine (tillRun_any u V hV16 A es L c HL.out hL5 HEy.out hEB k j1 j2 j3 j4 (w.heap.size+1) HU.out.2.2.2.1 N hN HR3.out.1 HR3.out.2.2).mono ?_
 rw[HEe.out]
 rintro e z (⟨h0,_⟩ | ⟨_,Av,Ac,Ai,ccv,ccc,cci,rfl,hin,hb,n1,n2,n3⟩)
 ·exact absurd rfl h0
 have HIN:=hide hin
 have HZ:=hide hb
 have HN:=hide (And.intro n1 (And.intro n2 n3))
 have szz:u.heap.size≤z.heap.size:=hb.size
 clear hin hb n1 n2 n3
 clear c0 c1 d0 d1 d2 d3 d4 hz0 hz1
 have HRow:=hide ((HZ.out.block (w.heap.size+2) (by omega)).trans HRw.out)
 have hRz:w.heap.size+1+1<z.heap.size:=by omega
 obtain⟨q0,q1,q2,q3,q4,q5⟩:=zr6 HRow.out
 have zq:=zf HRow.out;have f0:=zq 0;have f1:=zq 1;have f2:=zq 2;have f3:=zq 3;have f4:=zq 4;have f5:=zq 5;clear zq
 go_wp2
 obtain⟨wf,hwf⟩:∃q,(((((z.setCell ⟨w.heap.size+1+1,0,none⟩ (.int .i64 (atV k j2 j3 es V N).st)).setCell ⟨w.heap.size+1+1,1,none⟩ (.slice Av V ccv)).setCell ⟨w.heap.size+1+1,2,none⟩ (.slice Ac V ccc)).setCell ⟨w.heap.size+1+1,3,none⟩ (.slice Ai V cci)).setCell ⟨w.heap.size+1+1,4,none⟩ (.int .i64 (atV k j2 j3 es V N).sm)).setCell ⟨w.heap.size+1+1,5,none⟩ (.int .i64 (atV k j2 j3 es V N).mo)=q:=⟨_,rfl⟩
 have hF:=far6 z (w.heap.size+1+1) (w.heap.size+1+1) (.int .i64 (atV k j2 j3 es V N).st) (.slice Av V ccv) (.slice Ac V ccc) (.slice Ai V cci) (.int .i64 (atV k j2 j3 es V N).sm) (.int .i64 (atV k j2 j3 es V N).mo) HRow.out
 rw[hwf] at hF ⊢
 obtain⟨FF,HY⟩:=hF
 obtain⟨y0,y1,y2,y3,y4,y5⟩:=cells6 HY
 clear hwf HY
 exact bodyPost_ret (v:=.tuple #[.agg #[.int .i64 (atV k j2 j3 es V N).st,.slice Av V ccv,.slice Ac V ccc,.slice Ai V cci,.int .i64 (atV k j2 j3 es V N).sm,.int .i64 (atV k j2 j3 es V N).mo],.int .i64 0]) (by simp[results,Tryz.results10,go_sem,y0,y1,y2,y3,y4,y5]) rfl (.inr ⟨rfl,Av,Ac,Ai,ccv,ccc,cci,rfl,⟨FF.rd HIN.out.vals HN.out.1.1 (by omega) (by omega),FF.rd HIN.out.chg HN.out.2.1 (by omega) (by omega),FF.rd HIN.out.inb HN.out.2.2 (by omega) (by omega)⟩,(HBw.out.trans (HZ.out.mono (by omega))).trans (FF.below (by omega) (by omega)),(HN.out.1.far FF (by omega) (by omega)).mono (by omega),HN.out.2.1.mono (by omega),HN.out.2.2.mono (by omega)⟩)
theorem qat_any (w:World) (V:Int) (A:Option Addr) (es:List Ed) (L c:Nat) (hL:es.length=L) (hL9:L≤9223372036854775807) (hE:Eds w w.heap.size A es) (k j1 j2 j3 j4:Int) (kk:Int) (hG:acheckF k j1 j2 j3 j4 V es=0→L≤100∧V≤16) :
  Calls Tryz.prog 31 #[.agg #[.int .i64 V,.slice A L c],.agg #[.int .u8 k,.int .i64 j1,.int .i64 j2,.int .i64 j3,.int .i64 j4],.int .i64 kk] w (TillPost w (atE (acheckF k j1 j2 j3 j4 V es) kk) V.toNat (atV k j2 j3 es V.toNat kk.toNat)):=by
 have HL:=hide hL
 have HE:=hide hE
 have HG:=hide hG
 clear hL hE hG
 obtain⟨E,hEe⟩:∃E,acheckF k j1 j2 j3 j4 V es=E:=⟨_,rfl⟩
 have HEe:=hide hEe
 clear hEe
 by_cases hE0:E=0
 rotate_left
 ·have hE1:(E == 0)=false:=by simpa using hE0
  have hE2:(E != 0)=true:=by simpa using hE0
  have HN0:=hide hE0
  have HNE:Hid (acheckF k j1 j2 j3 j4 V es≠0):=hide (by rw[HEe.out];exact hE0)
  clear hE0
  rw[HEe.out]
  go_enter Tryz.func31,Tryz.ntmps31
  go_upto_region 1 with fail
  obtain⟨u,hu⟩:∃u,(((w.alloc (.cells #[.int .i64 V,.slice A L c] 24)).alloc (.cells #[.int .u8 k,.int .i64 j1,.int .i64 j2,.int .i64 j3,.int .i64 j4] 26)).alloc (.cells #[.int .i64 kk] 3)).alloc (.cells #[.int .i64 0,.slice none 0 0,.slice none 0 0,.slice none 0 0,.int .i64 0,.int .i64 0] 35)=u:=⟨_,rfl⟩
  rw[hu]
  have HU:=hide (allocs4 hu)
  clear hu
  have hzu:u.heap.size=w.heap.size+4:=HU.out.2.1
  obtain⟨c0,c1⟩:=zr2 HU.out.2.2.1
  obtain⟨d0,d1,d2,d3,d4⟩:=zr5 HU.out.2.2.2.1
  have kc:u.cell? ⟨w.heap.size+1+1,0,none⟩=some (.int .i64 kk):=cell_of_row _ _ 0 _ _ _ HU.out.2.2.2.2.1
  have hz0:w.heap.size<u.heap.size:=by omega
  have hz1:w.heap.size+1<u.heap.size:=by omega
  have hz2:w.heap.size+1+1<u.heap.size:=by omega
  have hck:=acheck_any u k j1 j2 j3 j4 V A es L c HL.out ((HE.out.below HU.out.1 (Nat.le_refl _)).more HU.out.1.size) hL9
  rw[HEe.out] at hck
  have HCK:=hide hck
  clear hck
  go_wp2_with fail
  refine HCK.out.mono ?_
  rintro e y ⟨rfl,hy⟩
  clear c0 c1 d0 d1 d2 d3 d4 hz0 hz1 kc hz2
  have HY:=hide hy
  have syu:u.heap.size≤y.heap.size:=hy.size
  clear hy
  have HBw:=hide (HU.out.1.trans (HY.out.mono (by omega)))
  have HEy:=hide ((HE.out.below HBw.out (Nat.le_refl _)).more HBw.out.size)
  have HRw:=hide ((HY.out.block (w.heap.size+3) (by omega)).trans HU.out.2.2.2.2.2)
  obtain⟨c0,c1⟩:=zr2 ((HY.out.block _ (by omega)).trans HU.out.2.2.1)
  obtain⟨d0,d1,d2,d3,d4⟩:=zr5 ((HY.out.block _ (by omega)).trans HU.out.2.2.2.1)
  have kc:y.cell? ⟨w.heap.size+1+1,0,none⟩=some (.int .i64 kk):=cell_of_row _ _ 0 _ _ _ ((HY.out.block _ (by omega)).trans HU.out.2.2.2.2.1)
  have hz0:w.heap.size<y.heap.size:=by omega
  have hz1:w.heap.size+1<y.heap.size:=by omega
  have hz2:w.heap.size+1+1<y.heap.size:=by omega
  go_wp2_with fail
  refine (till_err y V A es L c HL.out hL9 HEy.out k j1 j2 j3 j4 HNE.out _).mono ?_
  rw[HEe.out]
  rintro e z ⟨rfl,hz⟩
  have HZ:=hide hz
  have szz:y.heap.size≤z.heap.size:=hz.size
  clear hz
  clear c0 c1 d0 d1 d2 d3 d4 hz0 hz1 kc hz2
  have HRow:=hide ((HZ.out.block (w.heap.size+3) (by omega)).trans HRw.out)
  have hRz:w.heap.size+1+1+1<z.heap.size:=by omega
  obtain⟨q0,q1,q2,q3,q4,q5⟩:=zr6 HRow.out
  have zq:=zf HRow.out;have f0:=zq 0;have f1:=zq 1;have f2:=zq 2;have f3:=zq 3;have f4:=zq 4;have f5:=zq 5;clear zq
  go_wp2
  obtain⟨wf,hwf⟩:∃q,(((((z.setCell ⟨w.heap.size+1+1+1,0,none⟩ (.int .i64 0)).setCell ⟨w.heap.size+1+1+1,1,none⟩ (.slice none 0 0)).setCell ⟨w.heap.size+1+1+1,2,none⟩ (.slice none 0 0)).setCell ⟨w.heap.size+1+1+1,3,none⟩ (.slice none 0 0)).setCell ⟨w.heap.size+1+1+1,4,none⟩ (.int .i64 0)).setCell ⟨w.heap.size+1+1+1,5,none⟩ (.int .i64 0)=q:=⟨_,rfl⟩
  have hF:=far6 z (w.heap.size+1+1+1) (w.heap.size+1+1+1) (.int .i64 0) (.slice none 0 0) (.slice none 0 0) (.slice none 0 0) (.int .i64 0) (.int .i64 0) HRow.out
  rw[hwf] at hF ⊢
  obtain⟨FF,HY⟩:=hF
  obtain⟨y0,y1,y2,y3,y4,y5⟩:=cells6 HY
  clear hwf HY
  exact bodyPost_ret (v:=.tuple #[.agg #[.int .i64 0,.slice none 0 0,.slice none 0 0,.slice none 0 0,.int .i64 0,.int .i64 0],.int .i64 E]) (by simp[results,Tryz.results31,go_sem,y0,y1,y2,y3,y4,y5]) rfl (.inl ⟨by rw[atE,if_pos HN0.out];exact HN0.out,by rw[atE,if_pos HN0.out],(HBw.out.trans (HZ.out.mono (by omega))).trans (FF.below (by omega) (by omega))⟩)
 subst hE0
 by_cases hk1:kk<0
 ·rw[show (atE (acheckF k j1 j2 j3 j4 V es) kk)=4 by rw[HEe.out,atE,if_neg (fun h=>h rfl),if_pos (by omega)]]
  go_enter Tryz.func31,Tryz.ntmps31
  go_upto_region 1 with fail
  obtain⟨u,hu⟩:∃u,(((w.alloc (.cells #[.int .i64 V,.slice A L c] 24)).alloc (.cells #[.int .u8 k,.int .i64 j1,.int .i64 j2,.int .i64 j3,.int .i64 j4] 26)).alloc (.cells #[.int .i64 kk] 3)).alloc (.cells #[.int .i64 0,.slice none 0 0,.slice none 0 0,.slice none 0 0,.int .i64 0,.int .i64 0] 35)=u:=⟨_,rfl⟩
  rw[hu]
  have HU:=hide (allocs4 hu)
  clear hu
  have hzu:u.heap.size=w.heap.size+4:=HU.out.2.1
  obtain⟨c0,c1⟩:=zr2 HU.out.2.2.1
  obtain⟨d0,d1,d2,d3,d4⟩:=zr5 HU.out.2.2.2.1
  have kc:u.cell? ⟨w.heap.size+1+1,0,none⟩=some (.int .i64 kk):=cell_of_row _ _ 0 _ _ _ HU.out.2.2.2.2.1
  have hz0:w.heap.size<u.heap.size:=by omega
  have hz1:w.heap.size+1<u.heap.size:=by omega
  have hz2:w.heap.size+1+1<u.heap.size:=by omega
  have hck:=acheck_any u k j1 j2 j3 j4 V A es L c HL.out ((HE.out.below HU.out.1 (Nat.le_refl _)).more HU.out.1.size) hL9
  rw[HEe.out] at hck
  have HCK:=hide hck
  clear hck
  go_wp2_with fail
  refine HCK.out.mono ?_
  rintro e y ⟨rfl,hy⟩
  clear c0 c1 d0 d1 d2 d3 d4 hz0 hz1 kc hz2
  have HY:=hide hy
  have syu:u.heap.size≤y.heap.size:=hy.size
  clear hy
  have HBw:=hide (HU.out.1.trans (HY.out.mono (by omega)))
  have HEy:=hide ((HE.out.below HBw.out (Nat.le_refl _)).more HBw.out.size)
  have HRw:=hide ((HY.out.block (w.heap.size+3) (by omega)).trans HU.out.2.2.2.2.2)
  obtain⟨c0,c1⟩:=zr2 ((HY.out.block _ (by omega)).trans HU.out.2.2.1)
  obtain⟨d0,d1,d2,d3,d4⟩:=zr5 ((HY.out.block _ (by omega)).trans HU.out.2.2.2.1)
  have kc:y.cell? ⟨w.heap.size+1+1,0,none⟩=some (.int .i64 kk):=cell_of_row _ _ 0 _ _ _ ((HY.out.block _ (by omega)).trans HU.out.2.2.2.2.1)
  have hz0:w.heap.size<y.heap.size:=by omega
  have hz1:w.heap.size+1<y.heap.size:=by omega
  have hz2:w.heap.size+1+1<y.heap.size:=by omega
  have HRow:=HRw
  have hRz:w.heap.size+1+1+1<y.heap.size:=by omega
  obtain⟨q0,q1,q2,q3,q4,q5⟩:=zr6 HRow.out
  have zq:=zf HRow.out;have f0:=zq 0;have f1:=zq 1;have f2:=zq 2;have f3:=zq 3;have f4:=zq 4;have f5:=zq 5;clear zq
  go_wp2
  obtain⟨wf,hwf⟩:∃q,(((((y.setCell ⟨w.heap.size+1+1+1,0,none⟩ (.int .i64 0)).setCell ⟨w.heap.size+1+1+1,1,none⟩ (.slice none 0 0)).setCell ⟨w.heap.size+1+1+1,2,none⟩ (.slice none 0 0)).setCell ⟨w.heap.size+1+1+1,3,none⟩ (.slice none 0 0)).setCell ⟨w.heap.size+1+1+1,4,none⟩ (.int .i64 0)).setCell ⟨w.heap.size+1+1+1,5,none⟩ (.int .i64 0)=q:=⟨_,rfl⟩
  have hF:=far6 y (w.heap.size+1+1+1) (w.heap.size+1+1+1) (.int .i64 0) (.slice none 0 0) (.slice none 0 0) (.slice none 0 0) (.int .i64 0) (.int .i64 0) HRow.out
  rw[hwf] at hF ⊢
  obtain⟨FF,HY⟩:=hF
  obtain⟨y0,y1,y2,y3,y4,y5⟩:=cells6 HY
  clear hwf HY
  exact bodyPost_ret (v:=.tuple #[.agg #[.int .i64 0,.slice none 0 0,.slice none 0 0,.slice none 0 0,.int .i64 0,.int .i64 0],.int .i64 4]) (by simp[results,Tryz.results31,go_sem,y0,y1,y2,y3,y4,y5]) rfl (.inl ⟨by decide,rfl,HBw.out.trans (FF.below (by omega) (by omega))⟩)
 have hk1':0≤kk:=by omega
 by_cases hk2:2000<kk
 ·rw[show (atE (acheckF k j1 j2 j3 j4 V es) kk)=4 by rw[HEe.out,atE,if_neg (fun h=>h rfl),if_pos (by omega)]]
  go_enter Tryz.func31,Tryz.ntmps31
  go_upto_region 1 with fail
  obtain⟨u,hu⟩:∃u,(((w.alloc (.cells #[.int .i64 V,.slice A L c] 24)).alloc (.cells #[.int .u8 k,.int .i64 j1,.int .i64 j2,.int .i64 j3,.int .i64 j4] 26)).alloc (.cells #[.int .i64 kk] 3)).alloc (.cells #[.int .i64 0,.slice none 0 0,.slice none 0 0,.slice none 0 0,.int .i64 0,.int .i64 0] 35)=u:=⟨_,rfl⟩
  rw[hu]
  have HU:=hide (allocs4 hu)
  clear hu
  have hzu:u.heap.size=w.heap.size+4:=HU.out.2.1
  obtain⟨c0,c1⟩:=zr2 HU.out.2.2.1
  obtain⟨d0,d1,d2,d3,d4⟩:=zr5 HU.out.2.2.2.1
  have kc:u.cell? ⟨w.heap.size+1+1,0,none⟩=some (.int .i64 kk):=cell_of_row _ _ 0 _ _ _ HU.out.2.2.2.2.1
  have hz0:w.heap.size<u.heap.size:=by omega
  have hz1:w.heap.size+1<u.heap.size:=by omega
  have hz2:w.heap.size+1+1<u.heap.size:=by omega
  have hck:=acheck_any u k j1 j2 j3 j4 V A es L c HL.out ((HE.out.below HU.out.1 (Nat.le_refl _)).more HU.out.1.size) hL9
  rw[HEe.out] at hck
  have HCK:=hide hck
  clear hck
  go_wp2_with fail
  refine HCK.out.mono ?_
  rintro e y ⟨rfl,hy⟩
  clear c0 c1 d0 d1 d2 d3 d4 hz0 hz1 kc hz2
  have HY:=hide hy
  have syu:u.heap.size≤y.heap.size:=hy.size
  clear hy
  have HBw:=hide (HU.out.1.trans (HY.out.mono (by omega)))
  have HEy:=hide ((HE.out.below HBw.out (Nat.le_refl _)).more HBw.out.size)
  have HRw:=hide ((HY.out.block (w.heap.size+3) (by omega)).trans HU.out.2.2.2.2.2)
  obtain⟨c0,c1⟩:=zr2 ((HY.out.block _ (by omega)).trans HU.out.2.2.1)
  obtain⟨d0,d1,d2,d3,d4⟩:=zr5 ((HY.out.block _ (by omega)).trans HU.out.2.2.2.1)
  have kc:y.cell? ⟨w.heap.size+1+1,0,none⟩=some (.int .i64 kk):=cell_of_row _ _ 0 _ _ _ ((HY.out.block _ (by omega)).trans HU.out.2.2.2.2.1)
  have hz0:w.heap.size<y.heap.size:=by omega
  have hz1:w.heap.size+1<y.heap.size:=by omega
  have hz2:w.heap.size+1+1<y.heap.size:=by omega
  have HRow:=HRw
  have hRz:w.heap.size+1+1+1<y.heap.size:=by omega
  obtain⟨q0,q1,q2,q3,q4,q5⟩:=zr6 HRow.out
  have zq:=zf HRow.out;have f0:=zq 0;have f1:=zq 1;have f2:=zq 2;have f3:=zq 3;have f4:=zq 4;have f5:=zq 5;clear zq
  go_wp2
  obtain⟨wf,hwf⟩:∃q,(((((y.setCell ⟨w.heap.size+1+1+1,0,none⟩ (.int .i64 0)).setCell ⟨w.heap.size+1+1+1,1,none⟩ (.slice none 0 0)).setCell ⟨w.heap.size+1+1+1,2,none⟩ (.slice none 0 0)).setCell ⟨w.heap.size+1+1+1,3,none⟩ (.slice none 0 0)).setCell ⟨w.heap.size+1+1+1,4,none⟩ (.int .i64 0)).setCell ⟨w.heap.size+1+1+1,5,none⟩ (.int .i64 0)=q:=⟨_,rfl⟩
  have hF:=far6 y (w.heap.size+1+1+1) (w.heap.size+1+1+1) (.int .i64 0) (.slice none 0 0) (.slice none 0 0) (.slice none 0 0) (.int .i64 0) (.int .i64 0) HRow.out
  rw[hwf] at hF ⊢
  obtain⟨FF,HY⟩:=hF
  obtain⟨y0,y1,y2,y3,y4,y5⟩:=cells6 HY
  clear hwf HY
  exact bodyPost_ret (v:=.tuple #[.agg #[.int .i64 0,.slice none 0 0,.slice none 0 0,.slice none 0 0,.int .i64 0,.int .i64 0],.int .i64 4]) (by simp[results,Tryz.results31,go_sem,y0,y1,y2,y3,y4,y5]) rfl (.inl ⟨by decide,rfl,HBw.out.trans (FF.below (by omega) (by omega))⟩)
 have hk2':kk≤2000:=by omega
 have HEe0:=HEe.out
 obtain⟨⟨hV1,hV,hEB⟩,hk,hj0,hj1⟩:=acheck_ok HEe0
 have hL5:=(HG.out HEe0).1
 have hV16:V≤16:=by have:=(HG.out HEe0).2;omega
 clear HEe0
 rw[show (atE (acheckF k j1 j2 j3 j4 V es) kk)=0 by rw[HEe.out,atE,if_neg (fun h=>h rfl),if_neg (by omega)]]
 obtain⟨V,rfl⟩:∃q:Nat,V=(q:Int):=⟨V.toNat,by omega⟩
 rw[show ((V:Int)).toNat=V from rfl]
 have hV16:V≤16:=by omega
 have hV:V≤512:=by omega
 clear hk hj0 hj1
 have hT:((atV k j2 j3 es V kk.toNat).st == kk)=true:=by rw[atV_st];simp;omega
 have hF:∀n,n<kk.toNat→((atV k j2 j3 es V n).st == kk)=false:=fun n hn=>by rw[atV_st];simp;omega
 have HT:=hide hT
 have HF:=hide hF
 clear hT hF
 go_enter Tryz.func31,Tryz.ntmps31
 go_upto_region 1 with fail
 obtain⟨u,hu⟩:∃u,(((w.alloc (.cells #[.int .i64 (V:Int),.slice A L c] 24)).alloc (.cells #[.int .u8 k,.int .i64 j1,.int .i64 j2,.int .i64 j3,.int .i64 j4] 26)).alloc (.cells #[.int .i64 kk] 3)).alloc (.cells #[.int .i64 0,.slice none 0 0,.slice none 0 0,.slice none 0 0,.int .i64 0,.int .i64 0] 35)=u:=⟨_,rfl⟩
 rw[hu]
 have HU:=hide (allocs4 hu)
 clear hu
 have hzu:u.heap.size=w.heap.size+4:=HU.out.2.1
 obtain⟨c0,c1⟩:=zr2 HU.out.2.2.1
 obtain⟨d0,d1,d2,d3,d4⟩:=zr5 HU.out.2.2.2.1
 have kc:u.cell? ⟨w.heap.size+1+1,0,none⟩=some (.int .i64 kk):=cell_of_row _ _ 0 _ _ _ HU.out.2.2.2.2.1
 have hz0:w.heap.size<u.heap.size:=by omega
 have hz1:w.heap.size+1<u.heap.size:=by omega
 have hz2:w.heap.size+1+1<u.heap.size:=by omega
 have hck:=acheck_any u k j1 j2 j3 j4 (V:Int) A es L c HL.out ((HE.out.below HU.out.1 (Nat.le_refl _)).more HU.out.1.size) hL9
 rw[HEe.out] at hck
 have HCK:=hide hck
 clear hck
 go_wp2_with fail
 refine HCK.out.mono ?_
 rintro e y ⟨rfl,hy⟩
 clear c0 c1 d0 d1 d2 d3 d4 hz0 hz1 kc hz2
 have HY:=hide hy
 have syu:u.heap.size≤y.heap.size:=hy.size
 clear hy
 have HBw:=hide (HU.out.1.trans (HY.out.mono (by omega)))
 have HEy:=hide ((HE.out.below HBw.out (Nat.le_refl _)).more HBw.out.size)
 have HRw:=hide ((HY.out.block (w.heap.size+3) (by omega)).trans HU.out.2.2.2.2.2)
 obtain⟨c0,c1⟩:=zr2 ((HY.out.block _ (by omega)).trans HU.out.2.2.1)
 obtain⟨d0,d1,d2,d3,d4⟩:=zr5 ((HY.out.block _ (by omega)).trans HU.out.2.2.2.1)
 have kc:y.cell? ⟨w.heap.size+1+1,0,none⟩=some (.int .i64 kk):=cell_of_row _ _ 0 _ _ _ ((HY.out.block _ (by omega)).trans HU.out.2.2.2.2.1)
 have hz0:w.heap.size<y.heap.size:=by omega
 have hz1:w.heap.size+1<y.heap.size:=by omega
 have hz2:w.heap.size+1+1<y.heap.size:=by omega
 go_wp2_with fail
 refine (tillAt_any y V hV16 A es L c HL.out hL5 HEy.out hEB k j1 j2 j3 j4 (w.heap.size+2) kk ((HY.out.block _ (by omega)).trans HU.out.2.2.2.2.1) kk.toNat (by omega) HT.out HF.out).mono ?_
 rw[HEe.out]
 rintro e z (⟨h0,_⟩ | ⟨_,Av,Ac,Ai,ccv,ccc,cci,rfl,hin,hb,n1,n2,n3⟩)
 ·exact absurd rfl h0
 have HIN:=hide hin
 have HZ:=hide hb
 have HN:=hide (And.intro n1 (And.intro n2 n3))
 have szz:y.heap.size≤z.heap.size:=hb.size
 clear hin hb n1 n2 n3
 clear c0 c1 d0 d1 d2 d3 d4 hz0 hz1 kc hz2
 have HRow:=hide ((HZ.out.block (w.heap.size+3) (by omega)).trans HRw.out)
 have hRz:w.heap.size+1+1+1<z.heap.size:=by omega
 obtain⟨q0,q1,q2,q3,q4,q5⟩:=zr6 HRow.out
 have zq:=zf HRow.out;have f0:=zq 0;have f1:=zq 1;have f2:=zq 2;have f3:=zq 3;have f4:=zq 4;have f5:=zq 5;clear zq
 go_wp2
 obtain⟨wf,hwf⟩:∃q,(((((z.setCell ⟨w.heap.size+1+1+1,0,none⟩ (.int .i64 (atV k j2 j3 es V kk.toNat).st)).setCell ⟨w.heap.size+1+1+1,1,none⟩ (.slice Av V ccv)).setCell ⟨w.heap.size+1+1+1,2,none⟩ (.slice Ac V ccc)).setCell ⟨w.heap.size+1+1+1,3,none⟩ (.slice Ai V cci)).setCell ⟨w.heap.size+1+1+1,4,none⟩ (.int .i64 (atV k j2 j3 es V kk.toNat).sm)).setCell ⟨w.heap.size+1+1+1,5,none⟩ (.int .i64 (atV k j2 j3 es V kk.toNat).mo)=q:=⟨_,rfl⟩
 have hF:=far6 z (w.heap.size+1+1+1) (w.heap.size+1+1+1) (.int .i64 (atV k j2 j3 es V kk.toNat).st) (.slice Av V ccv) (.slice Ac V ccc) (.slice Ai V cci) (.int .i64 (atV k j2 j3 es V kk.toNat).sm) (.int .i64 (atV k j2 j3 es V kk.toNat).mo) HRow.out
 rw[hwf] at hF ⊢
 obtain⟨FF,HY⟩:=hF
 obtain⟨y0,y1,y2,y3,y4,y5⟩:=cells6 HY
 clear hwf HY
 exact bodyPost_ret (v:=.tuple #[.agg #[.int .i64 (atV k j2 j3 es V kk.toNat).st,.slice Av V ccv,.slice Ac V ccc,.slice Ai V cci,.int .i64 (atV k j2 j3 es V kk.toNat).sm,.int .i64 (atV k j2 j3 es V kk.toNat).mo],.int .i64 0]) (by simp[results,Tryz.results31,go_sem,y0,y1,y2,y3,y4,y5]) rfl (.inr ⟨rfl,Av,Ac,Ai,ccv,ccc,cci,rfl,⟨FF.rd HIN.out.vals HN.out.1.1 (by omega) (by omega),FF.rd HIN.out.chg HN.out.2.1 (by omega) (by omega),FF.rd HIN.out.inb HN.out.2.2 (by omega) (by omega)⟩,(HBw.out.trans (HZ.out.mono (by omega))).trans (FF.below (by omega) (by omega)),(HN.out.1.far FF (by omega) (by omega)).mono (by omega),HN.out.2.1.mono (by omega),HN.out.2.2.mono (by omega)⟩)
end Go.Proofs.YtgbahnlgblahpaaGreat
namespace Go.Proofs.YtgbahnlgblahpaaGreat
open Go.RowKit
def meansF (k j1 j2 j3 j4 V:Int) (es:List Ed) (s:SV):Bool:=
 if acheckF k j1 j2 j3 j4 V es≠0 then false
 else if k=1 then sameV (atV 1 j2 j3 es V.toNat (runN 1 j1 j2 j3 j4 es V.toNat)) s
 else if s.st<0∨j1<s.st then false
 else if s.st=j1∧(atV k j2 j3 es V.toNat s.st.toNat).vals=s.vals then true
 else if k=2 then eqL (labL V es) s.vals else eqL (distL V es j2) s.vals
theorem acheck_chk {k j1 j2 j3 j4 V:Int} {es:List Ed} (h:acheckF k j1 j2 j3 j4 V es=0):checkF V es=0:=by
 unfold acheckF at h
 split at h
 ·rename_i h1;exact absurd h h1
 rename_i h1;exact Classical.byContradiction h1
theorem labL_short (V:Int) (es:List Ed):(labL V es).length≤100000:=by
 unfold labL
 split
 ·rename_i h;obtain⟨h1,h2,_⟩:=checkF_zero h;simp[labI];omega
 simp
theorem distL_short (V:Int) (es:List Ed) (s:Int):(distL V es s).length≤100000:=by
 unfold distL
 split
 ·rename_i h
  unfold distE at h
  by_cases hc:checkF V es=0
  ·obtain⟨h1,h2,_⟩:=checkF_zero hc
   have hl:(relaxedF V es s).length=V.toNat:=by
    unfold relaxedF
    have h:∀(n:Nat) (l:List Int),(roundsN es n l).length=l.length:=fun n=>by
     induction n with
     | zero=>intro l;rfl
     | succ n ih=>intro l;rw[roundsN,ih,round_len]
    rw[h];simp[start0]
   rw[hl];omega
  rw[if_neg hc] at h;exact absurd h hc
 simp
theorem means_any (w:World) (V:Int) (A:Option Addr) (es:List Ed) (L c:Nat) (k j1 j2 j3 j4:Int) (s:SV) (Av Ac Ai:Option Addr) (nv nc ni cv cc ci:Nat) (hL:es.length=L) (hE:Eds w w.heap.size A es) (hc:L≤8192) (heb:∀e∈es,-9223372036854775808≤e.2.2∧e.2.2≤9223372036854775807)
  (hG:acheckF k j1 j2 j3 j4 V es=0→L≤100∧V≤16) (hl:VLen s nv nc ni) (hi:VIn w s Av Ac Ai) :
  Calls Tryz.prog 11 #[.agg #[.int .i64 V,.slice A L c],.agg #[.int .u8 k,.int .i64 j1,.int .i64 j2,.int .i64 j3,.int .i64 j4],.agg #[.int .i64 s.st,.slice Av nv cv,.slice Ac nc cc,.slice Ai ni ci,.int .i64 s.sm,.int .i64 s.mo]] w fun e w'=>e = .returned (.bool (meansF k j1 j2 j3 j4 V es s))∧Below w.heap.size w w':=by
 obtain⟨u1,hu1⟩:∃u,w.alloc (.cells #[.int .i64 V,.slice A L c] 24)=u:=⟨_,rfl⟩
 obtain⟨u2,hu2⟩:∃u,u1.alloc (.cells #[.int .u8 k,.int .i64 j1,.int .i64 j2,.int .i64 j3,.int .i64 j4] 26)=u:=⟨_,rfl⟩
 obtain⟨u,hu⟩:∃u,u2.alloc (.cells #[.int .i64 s.st,.slice Av nv cv,.slice Ac nc cc,.slice Ai ni ci,.int .i64 s.sm,.int .i64 s.mo] 35)=u:=⟨_,rfl⟩
 have z1:u1.heap.size=w.heap.size+1:=by rw[←hu1];simp
 have z2:u2.heap.size=w.heap.size+1+1:=by rw[←hu2];simp[z1]
 have z3:u.heap.size=w.heap.size+1+1+1:=by rw[←hu];simp[z2]
 have b1:Below w.heap.size w u1:=by rw[←hu1];exact (Below.refl _ _).alloc (Nat.le_refl _) _
 have b2:Below u1.heap.size u1 u2:=by rw[←hu2];exact (Below.refl _ _).alloc (Nat.le_refl _) _
 have b3:Below u2.heap.size u2 u:=by rw[←hu];exact (Below.refl _ _).alloc (Nat.le_refl _) _
 have hb:Below w.heap.size w u:=(b1.trans (b2.mono (by omega))).trans (b3.mono (by omega))
 have M0:=hide (show u.heap[w.heap.size]?=some (.cells #[.int .i64 V,.slice A L c] 24) from (b3.block _ (by omega)).trans ((b2.block _ (by omega)).trans (by rw[←hu1];exact heap_alloc_last _ _)))
 have M1:=hide (show u.heap[w.heap.size+1]?=some (.cells #[.int .u8 k,.int .i64 j1,.int .i64 j2,.int .i64 j3,.int .i64 j4] 26) from (b3.block _ (by omega)).trans (by rw[←hu2,←z1];exact heap_alloc_last _ _))
 have M2:=hide (show u.heap[w.heap.size+1+1]?=some (.cells #[.int .i64 s.st,.slice Av nv cv,.slice Ac nc cc,.slice Ai ni ci,.int .i64 s.sm,.int .i64 s.mo] 35) from by rw[←hu,←z2];exact heap_alloc_last _ _)
 have HB:=hide hb
 have HEu:Hid (Eds u u.heap.size A es):=hide ((Eds.below hE hb (Nat.le_refl _)).more hb.size)
 have HIu:=hide (hi.next hb)
 have HL:=hide hL
 have HLn:=hide hl
 have HEb:=hide heb
 have HGe:=hide hG
 have hzu:w.heap.size+1+1<u.heap.size:=by omega
 have HU:=hide (And.intro hu1 (And.intro hu2 hu))
 have HK0:=hide (Below.refl u.heap.size u)
 clear hu1 hu2 hu z1 z2 z3 b1 b2 b3 hb hE hi hL hl heb hG
 obtain⟨a0,a1⟩:=zr2 ((HK0.out.block _ (by omega)).trans M0.out)
 obtain⟨b0,b1,b2,b3,b4⟩:=zr5 ((HK0.out.block _ (by omega)).trans M1.out)
 obtain⟨c0,c1,c2,c3,c4,c5⟩:=zr6 ((HK0.out.block _ (by omega)).trans M2.out)
 go_enter Tryz.func11,Tryz.ntmps11
 go_wp2_with fail
 rw[HU.out.1,HU.out.2.1,HU.out.2.2]
 refine (acheck_any _ k j1 j2 j3 j4 V A es L c HL.out HEu.out (by omega)).mono ?_
 rintro e y ⟨rfl,hy⟩
 have HKy:=hide hy
 clear hy
 clear a0 a1 b0 b1 b2 b3 b4 c0 c1 c2 c3 c4 c5
 obtain⟨E,hEe⟩:∃q,acheckF k j1 j2 j3 j4 V es=q:=⟨_,rfl⟩
 rw[hEe]
 have HEe:=hide hEe
 clear hEe
 by_cases hE0:E=0
 ·subst hE0
  obtain⟨⟨hV1,hV5,hEB⟩,hk,hj0,hj1⟩:=acheck_ok HEe.out
  have hck0:=acheck_chk HEe.out
  have hgg:=HGe.out HEe.out
  have HEB:=hide hEB
  clear hEB
  rcases hk with rfl | rfl | rfl
  ·obtain⟨a0,a1⟩:=zr2 ((HKy.out.block _ (by omega)).trans M0.out)
   obtain⟨b0,b1,b2,b3,b4⟩:=zr5 ((HKy.out.block _ (by omega)).trans M1.out)
   obtain⟨c0,c1,c2,c3,c4,c5⟩:=zr6 ((HKy.out.block _ (by omega)).trans M2.out)
   go_wp2_with fail
   refine (qrun_any y V A es L c HL.out (by omega) ((Eds.below HEu.out HKy.out (Nat.le_refl _)).more HKy.out.size) 1 j1 j2 j3 j4 (fun _=>hgg)).mono ?_
   rw[HEe.out]
   rintro e z (⟨h0,_⟩ | ⟨_,Bv,Bc,Bi,dv,dc,di,rfl,hin,hz,n1,n2,n3⟩)
   ·exact absurd rfl h0
   have HKz:=hide (HKy.out.trans (hz.mono HKy.out.size))
   have HIN:=hide hin
   obtain⟨M,rfl⟩:∃q:Nat,V=(q:Int):=⟨V.toNat,by omega⟩
   rw[show ((M:Int)).toNat=M from rfl] at HIN ⊢
   have hokn:=atV_ok (k:=1) (j2:=j2) (j3:=j3) (es:=es) (V:=M) (by omega) HEB.out (runN 1 j1 j2 j3 j4 es M)
   obtain⟨r,hr⟩:∃q,atV 1 j2 j3 es M (runN 1 j1 j2 j3 j4 es M)=q:=⟨_,rfl⟩
   rw[hr] at hokn HIN ⊢
   have HRr:=hide hr
   have hlr:VLen r M M M:=⟨hokn.lv,hokn.lc,hokn.li⟩
   have HLr:=hide hlr
   clear hin hz n1 n2 n3 hokn hr hlr a0 a1 b0 b1 b2 b3 b4 c0 c1 c2 c3 c4 c5
   obtain⟨t,ht⟩:∃q,z.alloc (.cells #[.int .i64 r.st,.slice Bv M dv,.slice Bc M dc,.slice Bi M di,.int .i64 r.sm,.int .i64 r.mo] 35)=q:=⟨_,rfl⟩
   have hbt:Below z.heap.size z t:=by rw[←ht];exact (Below.refl _ _).alloc (Nat.le_refl _) _
   have htl:t.heap[z.heap.size]?=some (.cells #[.int .i64 r.st,.slice Bv M dv,.slice Bc M dc,.slice Bi M di,.int .i64 r.sm,.int .i64 r.mo] 35):=by rw[←ht];exact heap_alloc_last _ _
   have HTe:=hide ht
   have HKt:=hide (HKz.out.trans (hbt.mono HKz.out.size))
   have HINt:=hide (HIN.out.next hbt)
   clear ht
   go_upto_region 5 with fail
   rw[HTe.out]
   obtain⟨T,hT⟩:∃T,z.heap.size=T:=⟨_,rfl⟩
   rw[hT] at htl ⊢
   obtain⟨d0,d1,d2,d3,d4,d5⟩:=zr6 htl
   obtain⟨a0,a1⟩:=zr2 ((HKt.out.block _ (by omega)).trans M0.out)
   obtain⟨b0,b1,b2,b3,b4⟩:=zr5 ((HKt.out.block _ (by omega)).trans M1.out)
   obtain⟨c0,c1,c2,c3,c4,c5⟩:=zr6 ((HKt.out.block _ (by omega)).trans M2.out)
   clear htl hbt HTe hT
   go_wp2_with fail
   refine (qsame_any t r Bv Bc Bi M M M dv dc di HLr.out HINt.out s Av Ac Ai nv nc ni cv cc ci HLn.out (HIu.out.next HKt.out) (by omega) (by omega) (by omega)).mono ?_
   rintro e z9 ⟨rfl,hz⟩
   have HKf:=hide (HKt.out.trans (hz.mono HKt.out.size))
   clear hz d0 d1 d2 d3 d4 d5 a0 a1 b0 b1 b2 b3 b4 c0 c1 c2 c3 c4 c5
   have HF:=hide (HB.out.trans (HKf.out.mono HB.out.size))
   have HR:Hid (meansF 1 j1 j2 j3 j4 (M:Int) es s=sameV r s):=hide (by unfold meansF;rw[if_neg (by rw[HEe.out];decide),if_pos rfl,←HRr.out];rfl)
   go_wp2
   go_ret
   exact⟨ret_b (by rw[HR.out]),HF.out⟩
  ·by_cases hs0:s.st<0
   ·obtain⟨a0,a1⟩:=zr2 ((HKy.out.block _ (by omega)).trans M0.out)
    obtain⟨b0,b1,b2,b3,b4⟩:=zr5 ((HKy.out.block _ (by omega)).trans M1.out)
    obtain⟨c0,c1,c2,c3,c4,c5⟩:=zr6 ((HKy.out.block _ (by omega)).trans M2.out)
    have HKf:=HKy
    have HF:=hide (HB.out.trans (HKf.out.mono HB.out.size))
    have HR:Hid (meansF 2 j1 j2 j3 j4 V es s=false):=hide (by unfold meansF;rw[if_neg (by rw[HEe.out];decide),if_neg (by decide),if_pos (.inl hs0)])
    go_wp2
    go_ret
    exact⟨ret_b (by rw[HR.out]),HF.out⟩
   have hs0':0≤s.st:=by omega
   by_cases hs1:j1<s.st
   ·obtain⟨a0,a1⟩:=zr2 ((HKy.out.block _ (by omega)).trans M0.out)
    obtain⟨b0,b1,b2,b3,b4⟩:=zr5 ((HKy.out.block _ (by omega)).trans M1.out)
    obtain⟨c0,c1,c2,c3,c4,c5⟩:=zr6 ((HKy.out.block _ (by omega)).trans M2.out)
    have HKf:=HKy
    have HF:=hide (HB.out.trans (HKf.out.mono HB.out.size))
    have HR:Hid (meansF 2 j1 j2 j3 j4 V es s=false):=hide (by unfold meansF;rw[if_neg (by rw[HEe.out];decide),if_neg (by decide),if_pos (.inr hs1)])
    go_wp2
    go_ret
    exact⟨ret_b (by rw[HR.out]),HF.out⟩
   have hs1':s.st≤j1:=by omega
   by_cases hs2:s.st=j1
   ·have HS2:=hide hs2
    have hs2b:(s.st == j1)=true:=by simpa using hs2
    have hst2:s.st≤2000:=by omega
    clear hs2
    obtain⟨a0,a1⟩:=zr2 ((HKy.out.block _ (by omega)).trans M0.out)
    obtain⟨b0,b1,b2,b3,b4⟩:=zr5 ((HKy.out.block _ (by omega)).trans M1.out)
    obtain⟨c0,c1,c2,c3,c4,c5⟩:=zr6 ((HKy.out.block _ (by omega)).trans M2.out)
    have HAt:Hid (atE 0 s.st=0):=hide (by unfold atE;rw[if_neg (by decide),if_neg (by omega)])
    go_wp2_with fail
    refine (qat_any y V A es L c HL.out (by omega) ((Eds.below HEu.out HKy.out (Nat.le_refl _)).more HKy.out.size) 2 j1 j2 j3 j4 s.st (fun _=>hgg)).mono ?_
    rw[HEe.out,HAt.out]
    rintro e z (⟨h0,_⟩ | ⟨_,Bv,Bc,Bi,dv,dc,di,rfl,hin,hz,n1,n2,n3⟩)
    ·exact absurd rfl h0
    have HKz:=hide (HKy.out.trans (hz.mono HKy.out.size))
    have HIN:=hide hin
    have hvt:V.toNat≤512:=by omega
    have hokn:=atV_ok (k:=2) (j2:=j2) (j3:=j3) (es:=es) (V:=V.toNat) (by omega) HEB.out s.st.toNat
    obtain⟨r,hr⟩:∃q,atV 2 j2 j3 es V.toNat s.st.toNat=q:=⟨_,rfl⟩
    rw[hr] at hokn HIN ⊢
    have HRr:=hide hr
    obtain⟨M,hM⟩:∃q,V.toNat=q:=⟨_,rfl⟩
    rw[hM] at hokn hvt ⊢
    have HMe:=hide hM
    have hlr:VLen r M M M:=⟨hokn.lv,hokn.lc,hokn.li⟩
    have HLr:=hide hlr
    clear hin hz n1 n2 n3 hokn hr hlr hM a0 a1 b0 b1 b2 b3 b4 c0 c1 c2 c3 c4 c5
    obtain⟨t,ht⟩:∃q,z.alloc (.cells #[.int .i64 r.st,.slice Bv M dv,.slice Bc M dc,.slice Bi M di,.int .i64 r.sm,.int .i64 r.mo] 35)=q:=⟨_,rfl⟩
    have hbt:Below z.heap.size z t:=by rw[←ht];exact (Below.refl _ _).alloc (Nat.le_refl _) _
    have htl:t.heap[z.heap.size]?=some (.cells #[.int .i64 r.st,.slice Bv M dv,.slice Bc M dc,.slice Bi M di,.int .i64 r.sm,.int .i64 r.mo] 35):=by rw[←ht];exact heap_alloc_last _ _
    have HTe:=hide ht
    have HKt:=hide (HKz.out.trans (hbt.mono HKz.out.size))
    have HINt:=hide (HIN.out.next hbt)
    clear ht
    go_upto_region 10 with fail
    rw[HTe.out]
    obtain⟨T,hT⟩:∃T,z.heap.size=T:=⟨_,rfl⟩
    rw[hT] at htl ⊢
    have d1:t.cell? ⟨T,1,none⟩=some (.slice Bv M dv):=cell_of_row _ _ 1 _ _ _ htl
    obtain⟨a0,a1⟩:=zr2 ((HKt.out.block _ (by omega)).trans M0.out)
    obtain⟨b0,b1,b2,b3,b4⟩:=zr5 ((HKt.out.block _ (by omega)).trans M1.out)
    obtain⟨c0,c1,c2,c3,c4,c5⟩:=zr6 ((HKt.out.block _ (by omega)).trans M2.out)
    clear htl hbt HTe hT
    go_wp2_with fail
    refine (eqv_any t Bv Av r.vals s.vals M nv dv cv HLr.out.1 HLn.out.1 (by omega) HINt.out.vals (HIu.out.next HKt.out).vals).mono ?_
    rintro e z2 ⟨rfl,hz⟩
    have HKf:=hide (HKt.out.trans (hz.mono HKt.out.size))
    clear hz d1 a0 a1 b0 b1 b2 b3 b4 c0 c1 c2 c3 c4 c5
    rcases hq:eqL r.vals s.vals with _ | _
    ·have HQ:=hide hq
     clear hq
     obtain⟨a0,a1⟩:=zr2 ((HKf.out.block _ (by omega)).trans M0.out)
     obtain⟨b0,b1,b2,b3,b4⟩:=zr5 ((HKf.out.block _ (by omega)).trans M1.out)
     obtain⟨c0,c1,c2,c3,c4,c5⟩:=zr6 ((HKf.out.block _ (by omega)).trans M2.out)
     go_wp2_with fail
     refine (labels_any z2 V A es L c HL.out ((Eds.below HEu.out HKf.out (Nat.le_refl _)).more HKf.out.size) hc).mono ?_
     rintro e z ⟨A9,c9,rfl,ho,hz⟩
     have HKz:=hide (HKf.out.trans (hz.mono HKf.out.size))
     have HO:=hide (Rd.of_own ho)
     clear hz ho
     clear a0 a1 b0 b1 b2 b3 b4 c0 c1 c2 c3 c4 c5
     obtain⟨dl,hdl⟩:∃q,labL V es=q:=⟨_,rfl⟩
     rw[hdl] at HO ⊢
     obtain⟨dn,hdn⟩:∃q,dl.length=q:=⟨_,rfl⟩
     have HDn:=hide hdn
     have hdn2:dn≤100000:=by rw[←hdn,←hdl];exact labL_short V es
     have HDl:=hide hdl
     rw[hdn] at ⊢
     clear hdl hdn
     obtain⟨a0,a1⟩:=zr2 ((HKz.out.block _ (by omega)).trans M0.out)
     obtain⟨b0,b1,b2,b3,b4⟩:=zr5 ((HKz.out.block _ (by omega)).trans M1.out)
     obtain⟨c0,c1,c2,c3,c4,c5⟩:=zr6 ((HKz.out.block _ (by omega)).trans M2.out)
     go_wp2_with fail
     refine (eqv_any z A9 Av dl s.vals dn nv c9 cv HDn.out HLn.out.1 (by omega) HO.out ((HIu.out.next HKz.out).vals)).mono ?_
     rintro e z1 ⟨rfl,hz⟩
     have HKf:=hide (HKz.out.trans (hz.mono HKz.out.size))
     clear hz
     clear a0 a1 b0 b1 b2 b3 b4 c0 c1 c2 c3 c4 c5
     have HF:=hide (HB.out.trans (HKf.out.mono HB.out.size))
     have HR:Hid (meansF 2 j1 j2 j3 j4 V es s=eqL dl s.vals):=hide (by unfold meansF;rw[if_neg (by rw[HEe.out];decide),if_neg (by decide),if_neg (fun h=>by rcases h with h | h <;> omega),if_neg (fun h=>by have h9:=HQ.out;rw[←HRr.out] at h9;rw[h.2] at h9;simp[eqL] at h9),if_pos rfl,HDl.out])
     go_wp2
     go_ret
     exact⟨ret_b (by rw[HR.out]),HF.out⟩
    have HQ:=hide hq
    clear hq
    have HF:=hide (HB.out.trans (HKf.out.mono HB.out.size))
    have HR:Hid (meansF 2 j1 j2 j3 j4 V es s=true):=hide (by unfold meansF;rw[if_neg (by rw[HEe.out];decide),if_neg (by decide),if_neg (fun h=>by rcases h with h | h <;> omega),if_pos ⟨HS2.out,by have h9:=HQ.out;rw[←HRr.out] at h9;simpa [eqL] using h9⟩])
    go_wp2
    go_ret
    exact⟨ret_b (by rw[HR.out]),HF.out⟩
   obtain⟨a0,a1⟩:=zr2 ((HKy.out.block _ (by omega)).trans M0.out)
   obtain⟨b0,b1,b2,b3,b4⟩:=zr5 ((HKy.out.block _ (by omega)).trans M1.out)
   obtain⟨c0,c1,c2,c3,c4,c5⟩:=zr6 ((HKy.out.block _ (by omega)).trans M2.out)
   go_wp2_with fail
   refine (labels_any y V A es L c HL.out ((Eds.below HEu.out HKy.out (Nat.le_refl _)).more HKy.out.size) hc).mono ?_
   rintro e z ⟨A9,c9,rfl,ho,hz⟩
   have HKz:=hide (HKy.out.trans (hz.mono HKy.out.size))
   have HO:=hide (Rd.of_own ho)
   clear hz ho
   clear a0 a1 b0 b1 b2 b3 b4 c0 c1 c2 c3 c4 c5
   obtain⟨dl,hdl⟩:∃q,labL V es=q:=⟨_,rfl⟩
   rw[hdl] at HO ⊢
   obtain⟨dn,hdn⟩:∃q,dl.length=q:=⟨_,rfl⟩
   have HDn:=hide hdn
   have hdn2:dn≤100000:=by rw[←hdn,←hdl];exact labL_short V es
   have HDl:=hide hdl
   rw[hdn] at ⊢
   clear hdl hdn
   obtain⟨a0,a1⟩:=zr2 ((HKz.out.block _ (by omega)).trans M0.out)
   obtain⟨b0,b1,b2,b3,b4⟩:=zr5 ((HKz.out.block _ (by omega)).trans M1.out)
   obtain⟨c0,c1,c2,c3,c4,c5⟩:=zr6 ((HKz.out.block _ (by omega)).trans M2.out)
   go_wp2_with fail
   refine (eqv_any z A9 Av dl s.vals dn nv c9 cv HDn.out HLn.out.1 (by omega) HO.out ((HIu.out.next HKz.out).vals)).mono ?_
   rintro e z1 ⟨rfl,hz⟩
   have HKf:=hide (HKz.out.trans (hz.mono HKz.out.size))
   clear hz
   clear a0 a1 b0 b1 b2 b3 b4 c0 c1 c2 c3 c4 c5
   have HF:=hide (HB.out.trans (HKf.out.mono HB.out.size))
   have HR:Hid (meansF 2 j1 j2 j3 j4 V es s=eqL dl s.vals):=hide (by unfold meansF;rw[if_neg (by rw[HEe.out];decide),if_neg (by decide),if_neg (fun h=>by rcases h with h | h <;> omega),if_neg (fun h=>hs2 h.1),if_pos rfl,HDl.out])
   go_wp2
   go_ret
   exact⟨ret_b (by rw[HR.out]),HF.out⟩
  by_cases hs0:s.st<0
  ·obtain⟨a0,a1⟩:=zr2 ((HKy.out.block _ (by omega)).trans M0.out)
   obtain⟨b0,b1,b2,b3,b4⟩:=zr5 ((HKy.out.block _ (by omega)).trans M1.out)
   obtain⟨c0,c1,c2,c3,c4,c5⟩:=zr6 ((HKy.out.block _ (by omega)).trans M2.out)
   have HKf:=HKy
   have HF:=hide (HB.out.trans (HKf.out.mono HB.out.size))
   have HR:Hid (meansF 3 j1 j2 j3 j4 V es s=false):=hide (by unfold meansF;rw[if_neg (by rw[HEe.out];decide),if_neg (by decide),if_pos (.inl hs0)])
   go_wp2
   go_ret
   exact⟨ret_b (by rw[HR.out]),HF.out⟩
  have hs0':0≤s.st:=by omega
  by_cases hs1:j1<s.st
  ·obtain⟨a0,a1⟩:=zr2 ((HKy.out.block _ (by omega)).trans M0.out)
   obtain⟨b0,b1,b2,b3,b4⟩:=zr5 ((HKy.out.block _ (by omega)).trans M1.out)
   obtain⟨c0,c1,c2,c3,c4,c5⟩:=zr6 ((HKy.out.block _ (by omega)).trans M2.out)
   have HKf:=HKy
   have HF:=hide (HB.out.trans (HKf.out.mono HB.out.size))
   have HR:Hid (meansF 3 j1 j2 j3 j4 V es s=false):=hide (by unfold meansF;rw[if_neg (by rw[HEe.out];decide),if_neg (by decide),if_pos (.inr hs1)])
   go_wp2
   go_ret
   exact⟨ret_b (by rw[HR.out]),HF.out⟩
  have hs1':s.st≤j1:=by omega
  by_cases hs2:s.st=j1
  ·have HS2:=hide hs2
   have hs2b:(s.st == j1)=true:=by simpa using hs2
   have hst2:s.st≤2000:=by omega
   clear hs2
   obtain⟨a0,a1⟩:=zr2 ((HKy.out.block _ (by omega)).trans M0.out)
   obtain⟨b0,b1,b2,b3,b4⟩:=zr5 ((HKy.out.block _ (by omega)).trans M1.out)
   obtain⟨c0,c1,c2,c3,c4,c5⟩:=zr6 ((HKy.out.block _ (by omega)).trans M2.out)
   have HAt:Hid (atE 0 s.st=0):=hide (by unfold atE;rw[if_neg (by decide),if_neg (by omega)])
   go_wp2_with fail
   refine (qat_any y V A es L c HL.out (by omega) ((Eds.below HEu.out HKy.out (Nat.le_refl _)).more HKy.out.size) 3 j1 j2 j3 j4 s.st (fun _=>hgg)).mono ?_
   rw[HEe.out,HAt.out]
   rintro e z (⟨h0,_⟩ | ⟨_,Bv,Bc,Bi,dv,dc,di,rfl,hin,hz,n1,n2,n3⟩)
   ·exact absurd rfl h0
   have HKz:=hide (HKy.out.trans (hz.mono HKy.out.size))
   have HIN:=hide hin
   have hvt:V.toNat≤512:=by omega
   have hokn:=atV_ok (k:=3) (j2:=j2) (j3:=j3) (es:=es) (V:=V.toNat) (by omega) HEB.out s.st.toNat
   obtain⟨r,hr⟩:∃q,atV 3 j2 j3 es V.toNat s.st.toNat=q:=⟨_,rfl⟩
   rw[hr] at hokn HIN ⊢
   have HRr:=hide hr
   obtain⟨M,hM⟩:∃q,V.toNat=q:=⟨_,rfl⟩
   rw[hM] at hokn hvt ⊢
   have HMe:=hide hM
   have hlr:VLen r M M M:=⟨hokn.lv,hokn.lc,hokn.li⟩
   have HLr:=hide hlr
   clear hin hz n1 n2 n3 hokn hr hlr hM a0 a1 b0 b1 b2 b3 b4 c0 c1 c2 c3 c4 c5
   obtain⟨t,ht⟩:∃q,z.alloc (.cells #[.int .i64 r.st,.slice Bv M dv,.slice Bc M dc,.slice Bi M di,.int .i64 r.sm,.int .i64 r.mo] 35)=q:=⟨_,rfl⟩
   have hbt:Below z.heap.size z t:=by rw[←ht];exact (Below.refl _ _).alloc (Nat.le_refl _) _
   have htl:t.heap[z.heap.size]?=some (.cells #[.int .i64 r.st,.slice Bv M dv,.slice Bc M dc,.slice Bi M di,.int .i64 r.sm,.int .i64 r.mo] 35):=by rw[←ht];exact heap_alloc_last _ _
   have HTe:=hide ht
   have HKt:=hide (HKz.out.trans (hbt.mono HKz.out.size))
   have HINt:=hide (HIN.out.next hbt)
   clear ht
   go_upto_region 10 with fail
   rw[HTe.out]
   obtain⟨T,hT⟩:∃T,z.heap.size=T:=⟨_,rfl⟩
   rw[hT] at htl ⊢
   have d1:t.cell? ⟨T,1,none⟩=some (.slice Bv M dv):=cell_of_row _ _ 1 _ _ _ htl
   obtain⟨a0,a1⟩:=zr2 ((HKt.out.block _ (by omega)).trans M0.out)
   obtain⟨b0,b1,b2,b3,b4⟩:=zr5 ((HKt.out.block _ (by omega)).trans M1.out)
   obtain⟨c0,c1,c2,c3,c4,c5⟩:=zr6 ((HKt.out.block _ (by omega)).trans M2.out)
   clear htl hbt HTe hT
   go_wp2_with fail
   refine (eqv_any t Bv Av r.vals s.vals M nv dv cv HLr.out.1 HLn.out.1 (by omega) HINt.out.vals (HIu.out.next HKt.out).vals).mono ?_
   rintro e z2 ⟨rfl,hz⟩
   have HKf:=hide (HKt.out.trans (hz.mono HKt.out.size))
   clear hz d1 a0 a1 b0 b1 b2 b3 b4 c0 c1 c2 c3 c4 c5
   rcases hq:eqL r.vals s.vals with _ | _
   ·have HQ:=hide hq
    clear hq
    obtain⟨a0,a1⟩:=zr2 ((HKf.out.block _ (by omega)).trans M0.out)
    obtain⟨b0,b1,b2,b3,b4⟩:=zr5 ((HKf.out.block _ (by omega)).trans M1.out)
    obtain⟨c0,c1,c2,c3,c4,c5⟩:=zr6 ((HKf.out.block _ (by omega)).trans M2.out)
    go_wp2_with fail
    refine (distances_any z2 V A es L c j2 HL.out ((Eds.below HEu.out HKf.out (Nat.le_refl _)).more HKf.out.size) hc HEb.out).mono ?_
    rintro e z ⟨A9,c9,rfl,ho,hz⟩
    have HKz:=hide (HKf.out.trans (hz.mono HKf.out.size))
    have HO:=hide (Rd.of_own ho)
    clear hz ho
    clear a0 a1 b0 b1 b2 b3 b4 c0 c1 c2 c3 c4 c5
    obtain⟨dl,hdl⟩:∃q,distL V es j2=q:=⟨_,rfl⟩
    rw[hdl] at HO ⊢
    obtain⟨dn,hdn⟩:∃q,dl.length=q:=⟨_,rfl⟩
    have HDn:=hide hdn
    have hdn2:dn≤100000:=by rw[←hdn,←hdl];exact distL_short V es j2
    have HDl:=hide hdl
    rw[hdn] at ⊢
    clear hdl hdn
    obtain⟨a0,a1⟩:=zr2 ((HKz.out.block _ (by omega)).trans M0.out)
    obtain⟨b0,b1,b2,b3,b4⟩:=zr5 ((HKz.out.block _ (by omega)).trans M1.out)
    obtain⟨c0,c1,c2,c3,c4,c5⟩:=zr6 ((HKz.out.block _ (by omega)).trans M2.out)
    go_wp2_with fail
    refine (eqv_any z A9 Av dl s.vals dn nv c9 cv HDn.out HLn.out.1 (by omega) HO.out ((HIu.out.next HKz.out).vals)).mono ?_
    rintro e z1 ⟨rfl,hz⟩
    have HKf:=hide (HKz.out.trans (hz.mono HKz.out.size))
    clear hz
    clear a0 a1 b0 b1 b2 b3 b4 c0 c1 c2 c3 c4 c5
    have HF:=hide (HB.out.trans (HKf.out.mono HB.out.size))
    have HR:Hid (meansF 3 j1 j2 j3 j4 V es s=eqL dl s.vals):=hide (by unfold meansF;rw[if_neg (by rw[HEe.out];decide),if_neg (by decide),if_neg (fun h=>by rcases h with h | h <;> omega),if_neg (fun h=>by have h9:=HQ.out;rw[←HRr.out] at h9;rw[h.2] at h9;simp[eqL] at h9),if_neg (by decide),HDl.out])
    go_wp2
    go_ret
    exact⟨ret_b (by rw[HR.out]),HF.out⟩
   have HQ:=hide hq
   clear hq
   have HF:=hide (HB.out.trans (HKf.out.mono HB.out.size))
   have HR:Hid (meansF 3 j1 j2 j3 j4 V es s=true):=hide (by unfold meansF;rw[if_neg (by rw[HEe.out];decide),if_neg (by decide),if_neg (fun h=>by rcases h with h | h <;> omega),if_pos ⟨HS2.out,by have h9:=HQ.out;rw[←HRr.out] at h9;simpa [eqL] using h9⟩])
   go_wp2
   go_ret
   exact⟨ret_b (by rw[HR.out]),HF.out⟩
  obtain⟨a0,a1⟩:=zr2 ((HKy.out.block _ (by omega)).trans M0.out)
  obtain⟨b0,b1,b2,b3,b4⟩:=zr5 ((HKy.out.block _ (by omega)).trans M1.out)
  obtain⟨c0,c1,c2,c3,c4,c5⟩:=zr6 ((HKy.out.block _ (by omega)).trans M2.out)
  go_wp2_with fail
  refine (distances_any y V A es L c j2 HL.out ((Eds.below HEu.out HKy.out (Nat.le_refl _)).more HKy.out.size) hc HEb.out).mono ?_
  rintro e z ⟨A9,c9,rfl,ho,hz⟩
  have HKz:=hide (HKy.out.trans (hz.mono HKy.out.size))
  have HO:=hide (Rd.of_own ho)
  clear hz ho
  clear a0 a1 b0 b1 b2 b3 b4 c0 c1 c2 c3 c4 c5
  obtain⟨dl,hdl⟩:∃q,distL V es j2=q:=⟨_,rfl⟩
  rw[hdl] at HO ⊢
  obtain⟨dn,hdn⟩:∃q,dl.length=q:=⟨_,rfl⟩
  have HDn:=hide hdn
  have hdn2:dn≤100000:=by rw[←hdn,←hdl];exact distL_short V es j2
  have HDl:=hide hdl
  rw[hdn] at ⊢
  clear hdl hdn
  obtain⟨a0,a1⟩:=zr2 ((HKz.out.block _ (by omega)).trans M0.out)
  obtain⟨b0,b1,b2,b3,b4⟩:=zr5 ((HKz.out.block _ (by omega)).trans M1.out)
  obtain⟨c0,c1,c2,c3,c4,c5⟩:=zr6 ((HKz.out.block _ (by omega)).trans M2.out)
  go_wp2_with fail
  refine (eqv_any z A9 Av dl s.vals dn nv c9 cv HDn.out HLn.out.1 (by omega) HO.out ((HIu.out.next HKz.out).vals)).mono ?_
  rintro e z1 ⟨rfl,hz⟩
  have HKf:=hide (HKz.out.trans (hz.mono HKz.out.size))
  clear hz
  clear a0 a1 b0 b1 b2 b3 b4 c0 c1 c2 c3 c4 c5
  have HF:=hide (HB.out.trans (HKf.out.mono HB.out.size))
  have HR:Hid (meansF 3 j1 j2 j3 j4 V es s=eqL dl s.vals):=hide (by unfold meansF;rw[if_neg (by rw[HEe.out];decide),if_neg (by decide),if_neg (fun h=>by rcases h with h | h <;> omega),if_neg (fun h=>hs2 h.1),if_neg (by decide),HDl.out])
  go_wp2
  go_ret
  exact⟨ret_b (by rw[HR.out]),HF.out⟩
 obtain⟨a0,a1⟩:=zr2 ((HKy.out.block _ (by omega)).trans M0.out)
 obtain⟨b0,b1,b2,b3,b4⟩:=zr5 ((HKy.out.block _ (by omega)).trans M1.out)
 obtain⟨c0,c1,c2,c3,c4,c5⟩:=zr6 ((HKy.out.block _ (by omega)).trans M2.out)
 have HKf:=HKy
 have HF:=hide (HB.out.trans (HKf.out.mono HB.out.size))
 have HR:Hid (meansF k j1 j2 j3 j4 V es s=false):=hide (by unfold meansF;rw[if_pos (by rw[HEe.out];exact hE0)])
 go_wp2
 go_ret
 exact⟨ret_b (by rw[HR.out]),HF.out⟩
end Go.Proofs.YtgbahnlgblahpaaGreat

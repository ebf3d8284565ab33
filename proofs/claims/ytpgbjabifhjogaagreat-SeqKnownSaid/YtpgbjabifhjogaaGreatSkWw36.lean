/- Lemmas: Pat, Qwk. -/
import Derived.Test.YtpgbjabifhjogaaGreatProg
import Derived.Deep.Strs
import Derived.Test.YtpgbjabifhjogaaGreatSkWw35
set_option linter.unusedVariables false
set_option linter.unusedSimpArgs false
set_option maxRecDepth 100000
set_option maxHeartbeats 16000000
namespace Go.Proofs.YtpgbjabifhjogaaGreat
open Go.RowKit Go.Shelf
attribute [local go_sem] Oper.semAt_some
theorem okFrom_all {V:Int} {es:List Ed} (h:okFrom V es 0=true) {e:Ed} (he:e∈es):0≤e.1∧e.1<V∧0≤e.2.1∧e.2.1<V∧0≤e.2.2∧e.2.2<2147483648:=by
 obtain⟨i,hi⟩:=List.getElem?_of_mem he
 have hl:=(List.getElem?_eq_some_iff.1 hi).1
 unfold okFrom at h
 have h1:=List.all_eq_true.1 h i (by rw[List.mem_range];omega)
 rw[Nat.zero_add] at h1
 unfold okAt at h1
 rw[hi] at h1
 have h2:fitsE e V=true:=by
  cases hf:fitsE e V with
  | true=>rfl
  | false=>dsimp only at h1;rw[hf] at h1;simp at h1
 unfold fitsE fitsB at h2
 simp only[Bool.and_eq_true,decide_eq_true_eq] at h2
 omega
theorem checkF_ok {V:Int} {es:List Ed} (h:checkF V es=0):1≤V∧V≤512∧es.length≤8192∧okFrom V es 0=true:=by
 unfold checkF at h
 split at h
 ·cases h
 split at h
 ·cases h
 split at h
 ·exact⟨by omega,by omega,by omega,‹_›⟩
 cases h
theorem acheck_ok {k j1 j2 j3 j4 V:Int} {es:List Ed} (h:acheckF k j1 j2 j3 j4 V es=0):(1≤V∧V≤512∧edsB es)∧(k=1∨k=2∨k=3)∧0≤j1∧j1≤2000:=by
 unfold acheckF at h
 split at h
 ·rename_i h1
  exact absurd h h1
 rename_i h1
 have h2:=checkF_ok (Decidable.not_not.1 h1)
 split at h
 ·rename_i h3
  refine⟨⟨h2.1,h2.2.1,fun e he=>?_⟩,h3.1,h3.2.1,h3.2.2.1⟩
  have:=okFrom_all h2.2.2.2 he
  unfold i64V
  omega
 cases h
theorem allocs4 {w u:World} {o0 o1 o2 o3:Obj} (h:(((w.alloc o0).alloc o1).alloc o2).alloc o3=u):Below w.heap.size w u∧u.heap.size=w.heap.size+4∧u.heap[w.heap.size]?=some o0∧u.heap[w.heap.size+1]?=some o1∧u.heap[w.heap.size+2]?=some o2∧u.heap[w.heap.size+3]?=some o3:=by
 have h3:=allocs3 (w:=w) (o0:=o0) (o1:=o1) (o2:=o2) rfl
 subst h
 refine⟨h3.1.alloc (by omega) _,by rw[World.size_alloc];omega,(Below.heap_alloc _ _ _ (by omega)).trans h3.2.2.1,(Below.heap_alloc _ _ _ (by omega)).trans h3.2.2.2.1,(Below.heap_alloc _ _ _ (by omega)).trans h3.2.2.2.2,?_⟩
 have:=heap_alloc_last (((w.alloc o0).alloc o1).alloc o2) o3
 rwa [h3.2.1] at this
def firstN (p:Nat→Bool):Nat→Nat
 | 0=>0
 | f+1=>if p 0=true then 0 else firstN (fun n=>p (n+1)) f+1
theorem firstN_spec:∀(f:Nat) (p:Nat→Bool),p f=true→p (firstN p f)=true∧firstN p f≤f∧∀n,n<firstN p f→p n=false
 | 0,p,h=>⟨h,Nat.le_refl _,fun n hn=>absurd hn (Nat.not_lt_zero n)⟩
 | f+1,p,h=>by
  unfold firstN
  by_cases h0:p 0=true
  ·rw[if_pos h0]
   exact⟨h0,Nat.zero_le _,fun n hn=>absurd hn (Nat.not_lt_zero n)⟩
  rw[if_neg h0]
  have ih:=firstN_spec f (fun n=>p (n+1)) h
  refine⟨ih.1,by omega,fun n hn=>?_⟩
  cases n with
  | zero=>simpa using h0
  | succ n=>exact ih.2.2 n (by omega)
def runN (k j1 j2 j3 j4:Int) (es:List Ed) (V:Nat):Nat:=firstN (fun n=>doneF k j1 j4 (atV k j2 j3 es V n).st (atV k j2 j3 es V n).mo) j1.toNat
theorem runN_spec {k j1 j2 j3 j4:Int} {es:List Ed} {V:Nat} (hk:k=1∨k=2∨k=3) (h0:0≤j1):doneF k j1 j4 (atV k j2 j3 es V (runN k j1 j2 j3 j4 es V)).st (atV k j2 j3 es V (runN k j1 j2 j3 j4 es V)).mo=true∧runN k j1 j2 j3 j4 es V≤j1.toNat∧∀n,n<runN k j1 j2 j3 j4 es V→doneF k j1 j4 (atV k j2 j3 es V n).st (atV k j2 j3 es V n).mo=false:=by
 refine firstN_spec j1.toNat (fun n=>doneF k j1 j4 (atV k j2 j3 es V n).st (atV k j2 j3 es V n).mo) ?_
 show doneF k j1 j4 (atV k j2 j3 es V j1.toNat).st _=true
 rw[atV_st]
 have hj:j1≤(j1.toNat:Int):=by omega
 unfold doneF
 generalize (j1.toNat:Int)=q at hj ⊢
 rcases hk with h | h | h <;> subst h <;> simp[hj]
def atE (E kk:Int):Int:=if E≠0 then E else if kk<0∨2000<kk then 4 else 0
theorem build_err_in (n:Nat) (hn:3≤n) (w:World) (V:Int) (A:Option Addr) (es:List Ed) (L c:Nat) (hL:es.length=L) (hL9:L≤9223372036854775807) (hE:Eds w w.heap.size A es) (k j1 j2 j3 j4:Int) (hne:acheckF k j1 j2 j3 j4 V es≠0) :
  CallsIn Fence.wide n Tryz.prog 42 #[.agg #[.int .i64 V,.slice A L c],.agg #[.int .u8 k,.int .i64 j1,.int .i64 j2,.int .i64 j3,.int .i64 j4]] w (fun e w'=>e = .returned (.tuple #[.pointer none,.int .i64 (acheckF k j1 j2 j3 j4 V es)])∧Below w.heap.size w w'):=by
 have h1:1≤n:=by omega
 have HCK:=hide (acheck_any ((w.alloc (.cells #[.int .i64 V,.slice A L c] 24)).alloc (.cells #[.int .u8 k,.int .i64 j1,.int .i64 j2,.int .i64 j3,.int .i64 j4] 26)) k j1 j2 j3 j4 V A es L c hL (Els.more (hE.below (((Below.refl w.heap.size w).alloc (Nat.le_refl _) _).alloc (by simp) _) (Nat.le_refl _)) (by simp;omega)) (by omega))
 refine callsIn_of_wp_marks Tryz.func42 rfl trivial ?_ rfl
 simp only[Tryz.ntmps42,List.size_toArray,List.length_cons,List.length_nil,Nat.reduceAdd,Nat.reduceSub,Array.replicate_succ,Array.replicate_zero,List.push_toArray,List.append_toArray,List.nil_append,List.cons_append]
 obtain⟨u,hu⟩:∃u,(w.alloc (.cells #[.int .i64 V,.slice A L c] 24)).alloc (.cells #[.int .u8 k,.int .i64 j1,.int .i64 j2,.int .i64 j3,.int .i64 j4] 26)=u:=⟨_,rfl⟩
 have HBu:=hide (show Below w.heap.size w u by rw[←hu];exact ((Below.refl _ _).alloc (Nat.le_refl _) _).alloc (by simp) _)
 have hzu:w.heap.size+1<u.heap.size:=by rw[←hu];simp
 have M0:=hide (show u.heap[w.heap.size]?=some (.cells #[.int .i64 V,.slice A L c] 24) by rw[←hu];exact (Below.heap_alloc _ _ _ (by simp)).trans (heap_alloc_last w _))
 have M1:=hide (show u.heap[w.heap.size+1]?=some (.cells #[.int .u8 k,.int .i64 j1,.int .i64 j2,.int .i64 j3,.int .i64 j4] 26) by rw[←hu];have h:=heap_alloc_last (w.alloc (.cells #[.int .i64 V,.slice A L c] 24)) (.cells #[.int .u8 k,.int .i64 j1,.int .i64 j2,.int .i64 j3,.int .i64 j4] 26);rw[World.size_alloc] at h;exact h)
 rw[hu] at HCK
 have HU:=hide hu
 have HE:=hide hE
 have HL:=hide hL
 clear hu hE hL
 have HNE:=hide hne
 clear hne
 obtain⟨E,hEe⟩:∃E,acheckF k j1 j2 j3 j4 V es=E:=⟨_,rfl⟩
 rw[hEe] at HCK HNE ⊢
 clear hEe
 have hE0:=HNE.out
 have c0:=cell_of_row _ _ 0 _ _ _ M0.out
 have c1:=cell_of_row _ _ 1 _ _ _ M0.out
 obtain⟨d0,d1,d2,d3,d4⟩:=zr5 M1.out
 have b0:u.cell? ⟨w.heap.size,0,none⟩=some (.int .i64 V):=c0
 have b1:u.cell? ⟨w.heap.size,1,none⟩=some (.slice A L c):=c1
 clear c0 c1
 gi_wp2_with fail
 rw[HU.out]
 refine⟨trivial,?_⟩
 refine (callsIn_wide.2 HCK.out).mono ?_
 rintro e y ⟨rfl,hy⟩
 have HY:=hide hy
 have hyz:=hy.size
 clear hy HCK b0 b1 d0 d1 d2 d3 d4
 have hE1:(E == 0)=false:=by simpa using hE0
 have hE2:(E != 0)=true:=by simpa using hE0
 have HN:=hide hE0
 clear hE0
 have HF:=hide (HBu.out.trans (HY.out.mono (by omega)))
 gi_wp2
 exact⟨_,results_tmp2 rfl _ _ _,rfl,HF.out⟩
theorem build_err (w:World) (V:Int) (A:Option Addr) (es:List Ed) (L c:Nat) (hL:es.length=L) (hL9:L≤9223372036854775807) (hE:Eds w w.heap.size A es) (k j1 j2 j3 j4:Int) (hne:acheckF k j1 j2 j3 j4 V es≠0) :
  Calls Tryz.prog 42 #[.agg #[.int .i64 V,.slice A L c],.agg #[.int .u8 k,.int .i64 j1,.int .i64 j2,.int .i64 j3,.int .i64 j4]] w (fun e w'=>e = .returned (.tuple #[.pointer none,.int .i64 (acheckF k j1 j2 j3 j4 V es)])∧Below w.heap.size w w'):=
 (callsIn_wide (n:=3)).1 (build_err_in 3 (Nat.le_refl _) w V A es L c hL hL9 hE k j1 j2 j3 j4 hne)
theorem till_err (w:World) (V:Int) (A:Option Addr) (es:List Ed) (L c:Nat) (hL:es.length=L) (hL9:L≤9223372036854775807) (hE:Eds w w.heap.size A es) (k j1 j2 j3 j4:Int) (hne:acheckF k j1 j2 j3 j4 V es≠0) (fv:Value) :
  Calls Tryz.prog 34 #[.agg #[.int .i64 V,.slice A L c],.agg #[.int .u8 k,.int .i64 j1,.int .i64 j2,.int .i64 j3,.int .i64 j4],fv] w (fun e w'=>e = .returned (.tuple #[.agg #[.int .i64 0,.slice none 0 0,.slice none 0 0,.slice none 0 0,.int .i64 0,.int .i64 0],.int .i64 (acheckF k j1 j2 j3 j4 V es)])∧Below w.heap.size w w'):=by
 have HL:=hide hL
 have HE:=hide hE
 have HNE:=hide hne
 obtain⟨E,hEe⟩:∃E,acheckF k j1 j2 j3 j4 V es=E:=⟨_,rfl⟩
 have HEe:=hide hEe
 have HN0:Hid (E≠0):=hide (by rw[←hEe];exact hne)
 rw[hEe]
 clear hL hE hne hEe
 go_enter Tryz.func34,Tryz.ntmps34
 go_upto_region 1 with fail
 obtain⟨u,hu⟩:∃u,((w.alloc (.cells #[.int .i64 V,.slice A L c] 24)).alloc (.cells #[.int .u8 k,.int .i64 j1,.int .i64 j2,.int .i64 j3,.int .i64 j4] 26)).alloc (.cells #[.int .i64 0,.slice none 0 0,.slice none 0 0,.slice none 0 0,.int .i64 0,.int .i64 0] 33)=u:=⟨_,rfl⟩
 rw[hu]
 have HU:=hide (allocs3 hu)
 clear hu
 have hzu:u.heap.size=w.heap.size+3:=HU.out.2.1
 have hz0:w.heap.size<u.heap.size:=by omega
 have hz1:w.heap.size+1<u.heap.size:=by omega
 obtain⟨c0,c1⟩:=zr2 HU.out.2.2.1
 obtain⟨d0,d1,d2,d3,d4⟩:=zr5 HU.out.2.2.2.1
 have hb0:=build_err u V A es L c HL.out hL9 ((HE.out.below HU.out.1 (Nat.le_refl _)).more HU.out.1.size) k j1 j2 j3 j4 HNE.out
 rw[HEe.out] at hb0
 have HB0:=hide hb0
 clear hb0
 go_wp2_with fail
 refine HB0.out.mono ?_
 rintro e y ⟨rfl,hb⟩
 have hE0:=HN0.out
 clear c0 c1 d0 d1 d2 d3 d4 hz0 hz1
 have hE1:(E == 0)=false:=by simpa using hE0
 have hE2:(E != 0)=true:=by simpa using hE0
 have HBy:=hide hb
 have syu:u.heap.size≤y.heap.size:=hb.size
 clear hE0 hb
 have HRy:=hide ((HBy.out.block (w.heap.size+2) (by omega)).trans HU.out.2.2.2.2)
 have hRz:w.heap.size+1+1<y.heap.size:=by omega
 obtain⟨q0,q1,q2,q3,q4,q5⟩:=zr6 HRy.out
 have zq:=zf HRy.out;have f0:=zq 0;have f1:=zq 1;have f2:=zq 2;have f3:=zq 3;have f4:=zq 4;have f5:=zq 5;clear zq
 go_wp2
 obtain⟨wf,hwf⟩:∃q,(((((y.setCell ⟨w.heap.size+1+1,0,none⟩ (.int .i64 0)).setCell ⟨w.heap.size+1+1,1,none⟩ (.slice none 0 0)).setCell ⟨w.heap.size+1+1,2,none⟩ (.slice none 0 0)).setCell ⟨w.heap.size+1+1,3,none⟩ (.slice none 0 0)).setCell ⟨w.heap.size+1+1,4,none⟩ (.int .i64 0)).setCell ⟨w.heap.size+1+1,5,none⟩ (.int .i64 0)=q:=⟨_,rfl⟩
 have hF:=far6 y (w.heap.size+1+1) (w.heap.size+1+1) (.int .i64 0) (.slice none 0 0) (.slice none 0 0) (.slice none 0 0) (.int .i64 0) (.int .i64 0) HRy.out
 rw[hwf] at hF ⊢
 obtain⟨FF,HY⟩:=hF
 obtain⟨y0,y1,y2,y3,y4,y5⟩:=cells6 HY
 clear hwf HY
 exact bodyPost_ret (v:=.tuple #[.agg #[.int .i64 0,.slice none 0 0,.slice none 0 0,.slice none 0 0,.int .i64 0,.int .i64 0],.int .i64 E]) (by simp[results,Tryz.results34,go_sem,y0,y1,y2,y3,y4,y5]) rfl ⟨rfl,(HU.out.1.trans (HBy.out.mono (by omega))).trans (FF.below (by omega) (by omega))⟩
theorem qstart_any (w:World) (V:Int) (A:Option Addr) (es:List Ed) (L c:Nat) (hL:es.length=L) (hL9:L≤9223372036854775807) (hE:Eds w w.heap.size A es) (k j1 j2 j3 j4:Int)  (hG:acheckF k j1 j2 j3 j4 V es=0→L≤80) :
  Calls Tryz.prog 15 #[.agg #[.int .i64 V,.slice A L c],.agg #[.int .u8 k,.int .i64 j1,.int .i64 j2,.int .i64 j3,.int .i64 j4]] w (TillPost w (acheckF k j1 j2 j3 j4 V es) V.toNat (startV k j2 es V.toNat)):=by
 have HL:=hide hL
 have HE:=hide hE
 have HG:=hide hG
 clear hL hE hG
 obtain⟨E,hEe⟩:∃E,acheckF k j1 j2 j3 j4 V es=E:=⟨_,rfl⟩
 by_cases hE0:E=0
 rotate_left
 ·have HN0:=hide hE0
  have HNE:Hid (acheckF k j1 j2 j3 j4 V es≠0):=hide (by rw[hEe];exact hE0)
  have HEe:=hide hEe
  clear hEe hE0
  rw[HEe.out]
  go_enter Tryz.func15,Tryz.ntmps15
  go_upto_region 1 with fail
  obtain⟨u,hu⟩:∃u,((w.alloc (.cells #[.int .i64 V,.slice A L c] 24)).alloc (.cells #[.int .u8 k,.int .i64 j1,.int .i64 j2,.int .i64 j3,.int .i64 j4] 26)).alloc (.cells #[.int .i64 0,.slice none 0 0,.slice none 0 0,.slice none 0 0,.int .i64 0,.int .i64 0] 33)=u:=⟨_,rfl⟩
  rw[hu]
  have HU:=hide (allocs3 hu)
  clear hu
  have hzu:u.heap.size=w.heap.size+3:=HU.out.2.1
  have HEy:=hide ((HE.out.below HU.out.1 (Nat.le_refl _)).more HU.out.1.size)
  have HBw:=hide HU.out.1
  have HRw:=hide HU.out.2.2.2.2
  obtain⟨c0,c1⟩:=zr2 HU.out.2.2.1
  obtain⟨d0,d1,d2,d3,d4⟩:=zr5 HU.out.2.2.2.1
  have hz0:w.heap.size<u.heap.size:=by omega
  have hz1:w.heap.size+1<u.heap.size:=by omega
  go_wp2_with fail
  refine (till_err u V A es L c HL.out hL9 HEy.out k j1 j2 j3 j4 HNE.out _).mono ?_
  rw[HEe.out]
  rintro e z ⟨rfl,hz⟩
  have HZ:=hide hz
  have szz:u.heap.size≤z.heap.size:=hz.size
  clear hz
  clear c0 c1 d0 d1 d2 d3 d4 hz0 hz1
  have HRow:=hide ((HZ.out.block (w.heap.size+2) (by omega)).trans HRw.out)
  have hRz:w.heap.size+1+1<z.heap.size:=by omega
  obtain⟨q0,q1,q2,q3,q4,q5⟩:=zr6 HRow.out
  have zq:=zf HRow.out;have f0:=zq 0;have f1:=zq 1;have f2:=zq 2;have f3:=zq 3;have f4:=zq 4;have f5:=zq 5;clear zq
  go_wp2
  obtain⟨wf,hwf⟩:∃q,(((((z.setCell ⟨w.heap.size+1+1,0,none⟩ (.int .i64 0)).setCell ⟨w.heap.size+1+1,1,none⟩ (.slice none 0 0)).setCell ⟨w.heap.size+1+1,2,none⟩ (.slice none 0 0)).setCell ⟨w.heap.size+1+1,3,none⟩ (.slice none 0 0)).setCell ⟨w.heap.size+1+1,4,none⟩ (.int .i64 0)).setCell ⟨w.heap.size+1+1,5,none⟩ (.int .i64 0)=q:=⟨_,rfl⟩
  have hF:=far6 z (w.heap.size+1+1) (w.heap.size+1+1) (.int .i64 0) (.slice none 0 0) (.slice none 0 0) (.slice none 0 0) (.int .i64 0) (.int .i64 0) HRow.out
  rw[hwf] at hF ⊢
  obtain⟨FF,HY⟩:=hF
  obtain⟨y0,y1,y2,y3,y4,y5⟩:=cells6 HY
  clear hwf HY
  exact bodyPost_ret (v:=.tuple #[.agg #[.int .i64 0,.slice none 0 0,.slice none 0 0,.slice none 0 0,.int .i64 0,.int .i64 0],.int .i64 E]) (by simp[results,Tryz.results15,go_sem,y0,y1,y2,y3,y4,y5]) rfl (.inl ⟨HN0.out,rfl,(HBw.out.trans (HZ.out.mono (by omega))).trans (FF.below (by omega) (by omega))⟩)
 subst hE0
 have HEe:=hide hEe
 obtain⟨⟨hV1,hV,hEB⟩,hk,hj0,hj1⟩:=acheck_ok hEe
 have hL5:=HG.out hEe
 clear hEe
 rw[HEe.out]
 obtain⟨V,rfl⟩:∃q:Nat,V=(q:Int):=⟨V.toNat,by omega⟩
 rw[show ((V:Int)).toNat=V from rfl]
 have hV:V≤512:=by omega
 clear hk hj0 hj1
 go_enter Tryz.func15,Tryz.ntmps15
 go_upto_region 1 with fail
 obtain⟨u,hu⟩:∃u,((w.alloc (.cells #[.int .i64 (V:Int),.slice A L c] 24)).alloc (.cells #[.int .u8 k,.int .i64 j1,.int .i64 j2,.int .i64 j3,.int .i64 j4] 26)).alloc (.cells #[.int .i64 0,.slice none 0 0,.slice none 0 0,.slice none 0 0,.int .i64 0,.int .i64 0] 33)=u:=⟨_,rfl⟩
 rw[hu]
 have HU:=hide (allocs3 hu)
 clear hu
 have hzu:u.heap.size=w.heap.size+3:=HU.out.2.1
 have HEy:=hide ((HE.out.below HU.out.1 (Nat.le_refl _)).more HU.out.1.size)
 have HBw:=hide HU.out.1
 have HRw:=hide HU.out.2.2.2.2
 obtain⟨c0,c1⟩:=zr2 HU.out.2.2.1
 obtain⟨d0,d1,d2,d3,d4⟩:=zr5 HU.out.2.2.2.1
 have hz0:w.heap.size<u.heap.size:=by omega
 have hz1:w.heap.size+1<u.heap.size:=by omega
 go_wp2_with fail
 refine (tillStart_any u V hV A es L c HL.out hL5 HEy.out hEB k j1 j2 j3 j4 ).mono ?_
 rw[HEe.out]
 rintro e z (⟨h0,_⟩ | ⟨_,Av,Ac,Ai,ccv,ccc,cci,rfl,hin,hb,n1,n2,n3⟩)
 ·exact absurd rfl h0
 have HIN:=hide hin
 have HZ:=hide hb
 have HN:=hide (And.intro n1 (And.intro n2 n3))
 have szz:u.heap.size≤z.heap.size:=hb.size
 clear hin hb n1 n2 n3
 clear c0 c1 d0 d1 d2 d3 d4 hz0 hz1
 have HRow:=hide ((HZ.out.block (w.heap.size+2) (by omega)).trans HRw.out)
 have hRz:w.heap.size+1+1<z.heap.size:=by omega
 obtain⟨q0,q1,q2,q3,q4,q5⟩:=zr6 HRow.out
 have zq:=zf HRow.out;have f0:=zq 0;have f1:=zq 1;have f2:=zq 2;have f3:=zq 3;have f4:=zq 4;have f5:=zq 5;clear zq
 go_wp2
 obtain⟨wf,hwf⟩:∃q,(((((z.setCell ⟨w.heap.size+1+1,0,none⟩ (.int .i64 (startV k j2 es V).st)).setCell ⟨w.heap.size+1+1,1,none⟩ (.slice Av V ccv)).setCell ⟨w.heap.size+1+1,2,none⟩ (.slice Ac V ccc)).setCell ⟨w.heap.size+1+1,3,none⟩ (.slice Ai V cci)).setCell ⟨w.heap.size+1+1,4,none⟩ (.int .i64 (startV k j2 es V).sm)).setCell ⟨w.heap.size+1+1,5,none⟩ (.int .i64 (startV k j2 es V).mo)=q:=⟨_,rfl⟩
 have hF:=far6 z (w.heap.size+1+1) (w.heap.size+1+1) (.int .i64 (startV k j2 es V).st) (.slice Av V ccv) (.slice Ac V ccc) (.slice Ai V cci) (.int .i64 (startV k j2 es V).sm) (.int .i64 (startV k j2 es V).mo) HRow.out
 rw[hwf] at hF ⊢
 obtain⟨FF,HY⟩:=hF
 obtain⟨y0,y1,y2,y3,y4,y5⟩:=cells6 HY
 clear hwf HY
 exact bodyPost_ret (v:=.tuple #[.agg #[.int .i64 (startV k j2 es V).st,.slice Av V ccv,.slice Ac V ccc,.slice Ai V cci,.int .i64 (startV k j2 es V).sm,.int .i64 (startV k j2 es V).mo],.int .i64 0]) (by simp[results,Tryz.results15,go_sem,y0,y1,y2,y3,y4,y5]) rfl (.inr ⟨rfl,Av,Ac,Ai,ccv,ccc,cci,rfl,⟨FF.rd HIN.out.vals HN.out.1 (by omega) (by omega),FF.rd HIN.out.chg HN.out.2.1 (by omega) (by omega),FF.rd HIN.out.inb HN.out.2.2 (by omega) (by omega)⟩,(HBw.out.trans (HZ.out.mono (by omega))).trans (FF.below (by omega) (by omega)),HN.out.1.mono (by omega),HN.out.2.1.mono (by omega),HN.out.2.2.mono (by omega)⟩)
theorem qrun_any (w:World) (V:Int) (A:Option Addr) (es:List Ed) (L c:Nat) (hL:es.length=L) (hL9:L≤9223372036854775807) (hE:Eds w w.heap.size A es) (k j1 j2 j3 j4:Int)  (hG:acheckF k j1 j2 j3 j4 V es=0→L≤80) :
  Calls Tryz.prog 21 #[.agg #[.int .i64 V,.slice A L c],.agg #[.int .u8 k,.int .i64 j1,.int .i64 j2,.int .i64 j3,.int .i64 j4]] w (TillPost w (acheckF k j1 j2 j3 j4 V es) V.toNat (atV k j2 j3 es V.toNat (runN k j1 j2 j3 j4 es V.toNat))):=by
 have HL:=hide hL
 have HE:=hide hE
 have HG:=hide hG
 clear hL hE hG
 obtain⟨E,hEe⟩:∃E,acheckF k j1 j2 j3 j4 V es=E:=⟨_,rfl⟩
 by_cases hE0:E=0
 rotate_left
 ·have HN0:=hide hE0
  have HNE:Hid (acheckF k j1 j2 j3 j4 V es≠0):=hide (by rw[hEe];exact hE0)
  have HEe:=hide hEe
  clear hEe hE0
  rw[HEe.out]
  go_enter Tryz.func21,Tryz.ntmps21
  go_upto_region 1 with fail
  obtain⟨u,hu⟩:∃u,((w.alloc (.cells #[.int .i64 V,.slice A L c] 24)).alloc (.cells #[.int .u8 k,.int .i64 j1,.int .i64 j2,.int .i64 j3,.int .i64 j4] 26)).alloc (.cells #[.int .i64 0,.slice none 0 0,.slice none 0 0,.slice none 0 0,.int .i64 0,.int .i64 0] 33)=u:=⟨_,rfl⟩
  rw[hu]
  have HU:=hide (allocs3 hu)
  clear hu
  have hzu:u.heap.size=w.heap.size+3:=HU.out.2.1
  have HEy:=hide ((HE.out.below HU.out.1 (Nat.le_refl _)).more HU.out.1.size)
  have HBw:=hide HU.out.1
  have HRw:=hide HU.out.2.2.2.2
  obtain⟨c0,c1⟩:=zr2 HU.out.2.2.1
  obtain⟨d0,d1,d2,d3,d4⟩:=zr5 HU.out.2.2.2.1
  have hz0:w.heap.size<u.heap.size:=by omega
  have hz1:w.heap.size+1<u.heap.size:=by omega
  go_wp2_with fail
  refine (till_err u V A es L c HL.out hL9 HEy.out k j1 j2 j3 j4 HNE.out _).mono ?_
  rw[HEe.out]
  rintro e z ⟨rfl,hz⟩
  have HZ:=hide hz
  have szz:u.heap.size≤z.heap.size:=hz.size
  clear hz
  clear c0 c1 d0 d1 d2 d3 d4 hz0 hz1
  have HRow:=hide ((HZ.out.block (w.heap.size+2) (by omega)).trans HRw.out)
  have hRz:w.heap.size+1+1<z.heap.size:=by omega
  obtain⟨q0,q1,q2,q3,q4,q5⟩:=zr6 HRow.out
  have zq:=zf HRow.out;have f0:=zq 0;have f1:=zq 1;have f2:=zq 2;have f3:=zq 3;have f4:=zq 4;have f5:=zq 5;clear zq
  go_wp2
  obtain⟨wf,hwf⟩:∃q,(((((z.setCell ⟨w.heap.size+1+1,0,none⟩ (.int .i64 0)).setCell ⟨w.heap.size+1+1,1,none⟩ (.slice none 0 0)).setCell ⟨w.heap.size+1+1,2,none⟩ (.slice none 0 0)).setCell ⟨w.heap.size+1+1,3,none⟩ (.slice none 0 0)).setCell ⟨w.heap.size+1+1,4,none⟩ (.int .i64 0)).setCell ⟨w.heap.size+1+1,5,none⟩ (.int .i64 0)=q:=⟨_,rfl⟩
  have hF:=far6 z (w.heap.size+1+1) (w.heap.size+1+1) (.int .i64 0) (.slice none 0 0) (.slice none 0 0) (.slice none 0 0) (.int .i64 0) (.int .i64 0) HRow.out
  rw[hwf] at hF ⊢
  obtain⟨FF,HY⟩:=hF
  obtain⟨y0,y1,y2,y3,y4,y5⟩:=cells6 HY
  clear hwf HY
  exact bodyPost_ret (v:=.tuple #[.agg #[.int .i64 0,.slice none 0 0,.slice none 0 0,.slice none 0 0,.int .i64 0,.int .i64 0],.int .i64 E]) (by simp[results,Tryz.results21,go_sem,y0,y1,y2,y3,y4,y5]) rfl (.inl ⟨HN0.out,rfl,(HBw.out.trans (HZ.out.mono (by omega))).trans (FF.below (by omega) (by omega))⟩)
 subst hE0
 have HEe:=hide hEe
 obtain⟨⟨hV1,hV,hEB⟩,hk,hj0,hj1⟩:=acheck_ok hEe
 have hL5:=HG.out hEe
 clear hEe
 rw[HEe.out]
 obtain⟨V,rfl⟩:∃q:Nat,V=(q:Int):=⟨V.toNat,by omega⟩
 rw[show ((V:Int)).toNat=V from rfl]
 have hV:V≤512:=by omega
 have hr:=runN_spec (j2:=j2) (j3:=j3) (j4:=j4) (es:=es) (V:=V) hk hj0
 obtain⟨N,hNe⟩:∃q,runN k j1 j2 j3 j4 es V=q:=⟨_,rfl⟩
 rw[hNe] at hr ⊢
 have HR3:=hide hr
 have hN:N≤2000:=by have:=hr.2.1;omega
 clear hr hNe hk hj0 hj1
 go_enter Tryz.func21,Tryz.ntmps21
 go_upto_region 1 with fail
 obtain⟨u,hu⟩:∃u,((w.alloc (.cells #[.int .i64 (V:Int),.slice A L c] 24)).alloc (.cells #[.int .u8 k,.int .i64 j1,.int .i64 j2,.int .i64 j3,.int .i64 j4] 26)).alloc (.cells #[.int .i64 0,.slice none 0 0,.slice none 0 0,.slice none 0 0,.int .i64 0,.int .i64 0] 33)=u:=⟨_,rfl⟩
 rw[hu]
 have HU:=hide (allocs3 hu)
 clear hu
 have hzu:u.heap.size=w.heap.size+3:=HU.out.2.1
 have HEy:=hide ((HE.out.below HU.out.1 (Nat.le_refl _)).more HU.out.1.size)
 have HBw:=hide HU.out.1
 have HRw:=hide HU.out.2.2.2.2
 obtain⟨c0,c1⟩:=zr2 HU.out.2.2.1
 obtain⟨d0,d1,d2,d3,d4⟩:=zr5 HU.out.2.2.2.1
 have hz0:w.heap.size<u.heap.size:=by omega
 have hz1:w.heap.size+1<u.heap.size:=by omega
 go_wp2_with fail
 refine (tillRun_any u V hV A es L c HL.out hL5 HEy.out hEB k j1 j2 j3 j4 (w.heap.size+1) HU.out.2.2.2.1 N hN HR3.out.1 HR3.out.2.2).mono ?_
 rw[HEe.out]
 rintro e z (⟨h0,_⟩ | ⟨_,Av,Ac,Ai,ccv,ccc,cci,rfl,hin,hb,n1,n2,n3⟩)
 ·exact absurd rfl h0
 have HIN:=hide hin
 have HZ:=hide hb
 have HN:=hide (And.intro n1 (And.intro n2 n3))
 have szz:u.heap.size≤z.heap.size:=hb.size
 clear hin hb n1 n2 n3
 clear c0 c1 d0 d1 d2 d3 d4 hz0 hz1
 have HRow:=hide ((HZ.out.block (w.heap.size+2) (by omega)).trans HRw.out)
 have hRz:w.heap.size+1+1<z.heap.size:=by omega
 obtain⟨q0,q1,q2,q3,q4,q5⟩:=zr6 HRow.out
 have zq:=zf HRow.out;have f0:=zq 0;have f1:=zq 1;have f2:=zq 2;have f3:=zq 3;have f4:=zq 4;have f5:=zq 5;clear zq
 go_wp2
 obtain⟨wf,hwf⟩:∃q,(((((z.setCell ⟨w.heap.size+1+1,0,none⟩ (.int .i64 (atV k j2 j3 es V N).st)).setCell ⟨w.heap.size+1+1,1,none⟩ (.slice Av V ccv)).setCell ⟨w.heap.size+1+1,2,none⟩ (.slice Ac V ccc)).setCell ⟨w.heap.size+1+1,3,none⟩ (.slice Ai V cci)).setCell ⟨w.heap.size+1+1,4,none⟩ (.int .i64 (atV k j2 j3 es V N).sm)).setCell ⟨w.heap.size+1+1,5,none⟩ (.int .i64 (atV k j2 j3 es V N).mo)=q:=⟨_,rfl⟩
 have hF:=far6 z (w.heap.size+1+1) (w.heap.size+1+1) (.int .i64 (atV k j2 j3 es V N).st) (.slice Av V ccv) (.slice Ac V ccc) (.slice Ai V cci) (.int .i64 (atV k j2 j3 es V N).sm) (.int .i64 (atV k j2 j3 es V N).mo) HRow.out
 rw[hwf] at hF ⊢
 obtain⟨FF,HY⟩:=hF
 obtain⟨y0,y1,y2,y3,y4,y5⟩:=cells6 HY
 clear hwf HY
 exact bodyPost_ret (v:=.tuple #[.agg #[.int .i64 (atV k j2 j3 es V N).st,.slice Av V ccv,.slice Ac V ccc,.slice Ai V cci,.int .i64 (atV k j2 j3 es V N).sm,.int .i64 (atV k j2 j3 es V N).mo],.int .i64 0]) (by simp[results,Tryz.results21,go_sem,y0,y1,y2,y3,y4,y5]) rfl (.inr ⟨rfl,Av,Ac,Ai,ccv,ccc,cci,rfl,⟨FF.rd HIN.out.vals HN.out.1 (by omega) (by omega),FF.rd HIN.out.chg HN.out.2.1 (by omega) (by omega),FF.rd HIN.out.inb HN.out.2.2 (by omega) (by omega)⟩,(HBw.out.trans (HZ.out.mono (by omega))).trans (FF.below (by omega) (by omega)),HN.out.1.mono (by omega),HN.out.2.1.mono (by omega),HN.out.2.2.mono (by omega)⟩)
theorem qat_any (w:World) (V:Int) (A:Option Addr) (es:List Ed) (L c:Nat) (hL:es.length=L) (hL9:L≤9223372036854775807) (hE:Eds w w.heap.size A es) (k j1 j2 j3 j4:Int) (kk:Int) (hG:acheckF k j1 j2 j3 j4 V es=0→L≤80) :
  Calls Tryz.prog 12 #[.agg #[.int .i64 V,.slice A L c],.agg #[.int .u8 k,.int .i64 j1,.int .i64 j2,.int .i64 j3,.int .i64 j4],.int .i64 kk] w (TillPost w (atE (acheckF k j1 j2 j3 j4 V es) kk) V.toNat (atV k j2 j3 es V.toNat kk.toNat)):=by
 have HL:=hide hL
 have HE:=hide hE
 have HG:=hide hG
 clear hL hE hG
 obtain⟨E,hEe⟩:∃E,acheckF k j1 j2 j3 j4 V es=E:=⟨_,rfl⟩
 have HEe:=hide hEe
 clear hEe
 by_cases hE0:E=0
 rotate_left
 ·have hE1:(E == 0)=false:=by simpa using hE0
  have hE2:(E != 0)=true:=by simpa using hE0
  have HN0:=hide hE0
  have HNE:Hid (acheckF k j1 j2 j3 j4 V es≠0):=hide (by rw[HEe.out];exact hE0)
  clear hE0
  rw[HEe.out]
  go_enter Tryz.func12,Tryz.ntmps12
  go_upto_region 1 with fail
  obtain⟨u,hu⟩:∃u,(((w.alloc (.cells #[.int .i64 V,.slice A L c] 24)).alloc (.cells #[.int .u8 k,.int .i64 j1,.int .i64 j2,.int .i64 j3,.int .i64 j4] 26)).alloc (.cells #[.int .i64 kk] 3)).alloc (.cells #[.int .i64 0,.slice none 0 0,.slice none 0 0,.slice none 0 0,.int .i64 0,.int .i64 0] 33)=u:=⟨_,rfl⟩
  rw[hu]
  have HU:=hide (allocs4 hu)
  clear hu
  have hzu:u.heap.size=w.heap.size+4:=HU.out.2.1
  obtain⟨c0,c1⟩:=zr2 HU.out.2.2.1
  obtain⟨d0,d1,d2,d3,d4⟩:=zr5 HU.out.2.2.2.1
  have kc:u.cell? ⟨w.heap.size+1+1,0,none⟩=some (.int .i64 kk):=cell_of_row _ _ 0 _ _ _ HU.out.2.2.2.2.1
  have hz0:w.heap.size<u.heap.size:=by omega
  have hz1:w.heap.size+1<u.heap.size:=by omega
  have hz2:w.heap.size+1+1<u.heap.size:=by omega
  have hck:=acheck_any u k j1 j2 j3 j4 V A es L c HL.out ((HE.out.below HU.out.1 (Nat.le_refl _)).more HU.out.1.size) hL9
  rw[HEe.out] at hck
  have HCK:=hide hck
  clear hck
  go_wp2_with fail
  refine HCK.out.mono ?_
  rintro e y ⟨rfl,hy⟩
  clear c0 c1 d0 d1 d2 d3 d4 hz0 hz1 kc hz2
  have HY:=hide hy
  have syu:u.heap.size≤y.heap.size:=hy.size
  clear hy
  have HBw:=hide (HU.out.1.trans (HY.out.mono (by omega)))
  have HEy:=hide ((HE.out.below HBw.out (Nat.le_refl _)).more HBw.out.size)
  have HRw:=hide ((HY.out.block (w.heap.size+3) (by omega)).trans HU.out.2.2.2.2.2)
  obtain⟨c0,c1⟩:=zr2 ((HY.out.block _ (by omega)).trans HU.out.2.2.1)
  obtain⟨d0,d1,d2,d3,d4⟩:=zr5 ((HY.out.block _ (by omega)).trans HU.out.2.2.2.1)
  have kc:y.cell? ⟨w.heap.size+1+1,0,none⟩=some (.int .i64 kk):=cell_of_row _ _ 0 _ _ _ ((HY.out.block _ (by omega)).trans HU.out.2.2.2.2.1)
  have hz0:w.heap.size<y.heap.size:=by omega
  have hz1:w.heap.size+1<y.heap.size:=by omega
  have hz2:w.heap.size+1+1<y.heap.size:=by omega
  go_wp2_with fail
  refine (till_err y V A es L c HL.out hL9 HEy.out k j1 j2 j3 j4 HNE.out _).mono ?_
  rw[HEe.out]
  rintro e z ⟨rfl,hz⟩
  have HZ:=hide hz
  have szz:y.heap.size≤z.heap.size:=hz.size
  clear hz
  clear c0 c1 d0 d1 d2 d3 d4 hz0 hz1 kc hz2
  have HRow:=hide ((HZ.out.block (w.heap.size+3) (by omega)).trans HRw.out)
  have hRz:w.heap.size+1+1+1<z.heap.size:=by omega
  obtain⟨q0,q1,q2,q3,q4,q5⟩:=zr6 HRow.out
  have zq:=zf HRow.out;have f0:=zq 0;have f1:=zq 1;have f2:=zq 2;have f3:=zq 3;have f4:=zq 4;have f5:=zq 5;clear zq
  go_wp2
  obtain⟨wf,hwf⟩:∃q,(((((z.setCell ⟨w.heap.size+1+1+1,0,none⟩ (.int .i64 0)).setCell ⟨w.heap.size+1+1+1,1,none⟩ (.slice none 0 0)).setCell ⟨w.heap.size+1+1+1,2,none⟩ (.slice none 0 0)).setCell ⟨w.heap.size+1+1+1,3,none⟩ (.slice none 0 0)).setCell ⟨w.heap.size+1+1+1,4,none⟩ (.int .i64 0)).setCell ⟨w.heap.size+1+1+1,5,none⟩ (.int .i64 0)=q:=⟨_,rfl⟩
  have hF:=far6 z (w.heap.size+1+1+1) (w.heap.size+1+1+1) (.int .i64 0) (.slice none 0 0) (.slice none 0 0) (.slice none 0 0) (.int .i64 0) (.int .i64 0) HRow.out
  rw[hwf] at hF ⊢
  obtain⟨FF,HY⟩:=hF
  obtain⟨y0,y1,y2,y3,y4,y5⟩:=cells6 HY
  clear hwf HY
  exact bodyPost_ret (v:=.tuple #[.agg #[.int .i64 0,.slice none 0 0,.slice none 0 0,.slice none 0 0,.int .i64 0,.int .i64 0],.int .i64 E]) (by simp[results,Tryz.results12,go_sem,y0,y1,y2,y3,y4,y5]) rfl (.inl ⟨by rw[atE,if_pos HN0.out];exact HN0.out,by rw[atE,if_pos HN0.out],(HBw.out.trans (HZ.out.mono (by omega))).trans (FF.below (by omega) (by omega))⟩)
 subst hE0
 by_cases hk1:kk<0
 ·rw[show (atE (acheckF k j1 j2 j3 j4 V es) kk)=4 by rw[HEe.out,atE,if_neg (fun h=>h rfl),if_pos (by omega)]]
  go_enter Tryz.func12,Tryz.ntmps12
  go_upto_region 1 with fail
  obtain⟨u,hu⟩:∃u,(((w.alloc (.cells #[.int .i64 V,.slice A L c] 24)).alloc (.cells #[.int .u8 k,.int .i64 j1,.int .i64 j2,.int .i64 j3,.int .i64 j4] 26)).alloc (.cells #[.int .i64 kk] 3)).alloc (.cells #[.int .i64 0,.slice none 0 0,.slice none 0 0,.slice none 0 0,.int .i64 0,.int .i64 0] 33)=u:=⟨_,rfl⟩
  rw[hu]
  have HU:=hide (allocs4 hu)
  clear hu
  have hzu:u.heap.size=w.heap.size+4:=HU.out.2.1
  obtain⟨c0,c1⟩:=zr2 HU.out.2.2.1
  obtain⟨d0,d1,d2,d3,d4⟩:=zr5 HU.out.2.2.2.1
  have kc:u.cell? ⟨w.heap.size+1+1,0,none⟩=some (.int .i64 kk):=cell_of_row _ _ 0 _ _ _ HU.out.2.2.2.2.1
  have hz0:w.heap.size<u.heap.size:=by omega
  have hz1:w.heap.size+1<u.heap.size:=by omega
  have hz2:w.heap.size+1+1<u.heap.size:=by omega
  have hck:=acheck_any u k j1 j2 j3 j4 V A es L c HL.out ((HE.out.below HU.out.1 (Nat.le_refl _)).more HU.out.1.size) hL9
  rw[HEe.out] at hck
  have HCK:=hide hck
  clear hck
  go_wp2_with fail
  refine HCK.out.mono ?_
  rintro e y ⟨rfl,hy⟩
  clear c0 c1 d0 d1 d2 d3 d4 hz0 hz1 kc hz2
  have HY:=hide hy
  have syu:u.heap.size≤y.heap.size:=hy.size
  clear hy
  have HBw:=hide (HU.out.1.trans (HY.out.mono (by omega)))
  have HEy:=hide ((HE.out.below HBw.out (Nat.le_refl _)).more HBw.out.size)
  have HRw:=hide ((HY.out.block (w.heap.size+3) (by omega)).trans HU.out.2.2.2.2.2)
  obtain⟨c0,c1⟩:=zr2 ((HY.out.block _ (by omega)).trans HU.out.2.2.1)
  obtain⟨d0,d1,d2,d3,d4⟩:=zr5 ((HY.out.block _ (by omega)).trans HU.out.2.2.2.1)
  have kc:y.cell? ⟨w.heap.size+1+1,0,none⟩=some (.int .i64 kk):=cell_of_row _ _ 0 _ _ _ ((HY.out.block _ (by omega)).trans HU.out.2.2.2.2.1)
  have hz0:w.heap.size<y.heap.size:=by omega
  have hz1:w.heap.size+1<y.heap.size:=by omega
  have hz2:w.heap.size+1+1<y.heap.size:=by omega
  have HRow:=HRw
  have hRz:w.heap.size+1+1+1<y.heap.size:=by omega
  obtain⟨q0,q1,q2,q3,q4,q5⟩:=zr6 HRow.out
  have zq:=zf HRow.out;have f0:=zq 0;have f1:=zq 1;have f2:=zq 2;have f3:=zq 3;have f4:=zq 4;have f5:=zq 5;clear zq
  go_wp2
  obtain⟨wf,hwf⟩:∃q,(((((y.setCell ⟨w.heap.size+1+1+1,0,none⟩ (.int .i64 0)).setCell ⟨w.heap.size+1+1+1,1,none⟩ (.slice none 0 0)).setCell ⟨w.heap.size+1+1+1,2,none⟩ (.slice none 0 0)).setCell ⟨w.heap.size+1+1+1,3,none⟩ (.slice none 0 0)).setCell ⟨w.heap.size+1+1+1,4,none⟩ (.int .i64 0)).setCell ⟨w.heap.size+1+1+1,5,none⟩ (.int .i64 0)=q:=⟨_,rfl⟩
  have hF:=far6 y (w.heap.size+1+1+1) (w.heap.size+1+1+1) (.int .i64 0) (.slice none 0 0) (.slice none 0 0) (.slice none 0 0) (.int .i64 0) (.int .i64 0) HRow.out
  rw[hwf] at hF ⊢
  obtain⟨FF,HY⟩:=hF
  obtain⟨y0,y1,y2,y3,y4,y5⟩:=cells6 HY
  clear hwf HY
  exact bodyPost_ret (v:=.tuple #[.agg #[.int .i64 0,.slice none 0 0,.slice none 0 0,.slice none 0 0,.int .i64 0,.int .i64 0],.int .i64 4]) (by simp[results,Tryz.results12,go_sem,y0,y1,y2,y3,y4,y5]) rfl (.inl ⟨by decide,rfl,HBw.out.trans (FF.below (by omega) (by omega))⟩)
 have hk1':0≤kk:=by omega
 by_cases hk2:2000<kk
 ·rw[show (atE (acheckF k j1 j2 j3 j4 V es) kk)=4 by rw[HEe.out,atE,if_neg (fun h=>h rfl),if_pos (by omega)]]
  go_enter Tryz.func12,Tryz.ntmps12
  go_upto_region 1 with fail
  obtain⟨u,hu⟩:∃u,(((w.alloc (.cells #[.int .i64 V,.slice A L c] 24)).alloc (.cells #[.int .u8 k,.int .i64 j1,.int .i64 j2,.int .i64 j3,.int .i64 j4] 26)).alloc (.cells #[.int .i64 kk] 3)).alloc (.cells #[.int .i64 0,.slice none 0 0,.slice none 0 0,.slice none 0 0,.int .i64 0,.int .i64 0] 33)=u:=⟨_,rfl⟩
  rw[hu]
  have HU:=hide (allocs4 hu)
  clear hu
  have hzu:u.heap.size=w.heap.size+4:=HU.out.2.1
  obtain⟨c0,c1⟩:=zr2 HU.out.2.2.1
  obtain⟨d0,d1,d2,d3,d4⟩:=zr5 HU.out.2.2.2.1
  have kc:u.cell? ⟨w.heap.size+1+1,0,none⟩=some (.int .i64 kk):=cell_of_row _ _ 0 _ _ _ HU.out.2.2.2.2.1
  have hz0:w.heap.size<u.heap.size:=by omega
  have hz1:w.heap.size+1<u.heap.size:=by omega
  have hz2:w.heap.size+1+1<u.heap.size:=by omega
  have hck:=acheck_any u k j1 j2 j3 j4 V A es L c HL.out ((HE.out.below HU.out.1 (Nat.le_refl _)).more HU.out.1.size) hL9
  rw[HEe.out] at hck
  have HCK:=hide hck
  clear hck
  go_wp2_with fail
  refine HCK.out.mono ?_
  rintro e y ⟨rfl,hy⟩
  clear c0 c1 d0 d1 d2 d3 d4 hz0 hz1 kc hz2
  have HY:=hide hy
  have syu:u.heap.size≤y.heap.size:=hy.size
  clear hy
  have HBw:=hide (HU.out.1.trans (HY.out.mono (by omega)))
  have HEy:=hide ((HE.out.below HBw.out (Nat.le_refl _)).more HBw.out.size)
  have HRw:=hide ((HY.out.block (w.heap.size+3) (by omega)).trans HU.out.2.2.2.2.2)
  obtain⟨c0,c1⟩:=zr2 ((HY.out.block _ (by omega)).trans HU.out.2.2.1)
  obtain⟨d0,d1,d2,d3,d4⟩:=zr5 ((HY.out.block _ (by omega)).trans HU.out.2.2.2.1)
  have kc:y.cell? ⟨w.heap.size+1+1,0,none⟩=some (.int .i64 kk):=cell_of_row _ _ 0 _ _ _ ((HY.out.block _ (by omega)).trans HU.out.2.2.2.2.1)
  have hz0:w.heap.size<y.heap.size:=by omega
  have hz1:w.heap.size+1<y.heap.size:=by omega
  have hz2:w.heap.size+1+1<y.heap.size:=by omega
  have HRow:=HRw
  have hRz:w.heap.size+1+1+1<y.heap.size:=by omega
  obtain⟨q0,q1,q2,q3,q4,q5⟩:=zr6 HRow.out
  have zq:=zf HRow.out;have f0:=zq 0;have f1:=zq 1;have f2:=zq 2;have f3:=zq 3;have f4:=zq 4;have f5:=zq 5;clear zq
  go_wp2
  obtain⟨wf,hwf⟩:∃q,(((((y.setCell ⟨w.heap.size+1+1+1,0,none⟩ (.int .i64 0)).setCell ⟨w.heap.size+1+1+1,1,none⟩ (.slice none 0 0)).setCell ⟨w.heap.size+1+1+1,2,none⟩ (.slice none 0 0)).setCell ⟨w.heap.size+1+1+1,3,none⟩ (.slice none 0 0)).setCell ⟨w.heap.size+1+1+1,4,none⟩ (.int .i64 0)).setCell ⟨w.heap.size+1+1+1,5,none⟩ (.int .i64 0)=q:=⟨_,rfl⟩
  have hF:=far6 y (w.heap.size+1+1+1) (w.heap.size+1+1+1) (.int .i64 0) (.slice none 0 0) (.slice none 0 0) (.slice none 0 0) (.int .i64 0) (.int .i64 0) HRow.out
  rw[hwf] at hF ⊢
  obtain⟨FF,HY⟩:=hF
  obtain⟨y0,y1,y2,y3,y4,y5⟩:=cells6 HY
  clear hwf HY
  exact bodyPost_ret (v:=.tuple #[.agg #[.int .i64 0,.slice none 0 0,.slice none 0 0,.slice none 0 0,.int .i64 0,.int .i64 0],.int .i64 4]) (by simp[results,Tryz.results12,go_sem,y0,y1,y2,y3,y4,y5]) rfl (.inl ⟨by decide,rfl,HBw.out.trans (FF.below (by omega) (by omega))⟩)
 have hk2':kk≤2000:=by omega
 have HEe0:=HEe.out
 obtain⟨⟨hV1,hV,hEB⟩,hk,hj0,hj1⟩:=acheck_ok HEe0
 have hL5:=HG.out HEe0
 clear HEe0
 rw[show (atE (acheckF k j1 j2 j3 j4 V es) kk)=0 by rw[HEe.out,atE,if_neg (fun h=>h rfl),if_neg (by omega)]]
 obtain⟨V,rfl⟩:∃q:Nat,V=(q:Int):=⟨V.toNat,by omega⟩
 rw[show ((V:Int)).toNat=V from rfl]
 have hV:V≤512:=by omega
 clear hk hj0 hj1
 have hT:((atV k j2 j3 es V kk.toNat).st == kk)=true:=by rw[atV_st];simp;omega
 have hF:∀n,n<kk.toNat→((atV k j2 j3 es V n).st == kk)=false:=fun n hn=>by rw[atV_st];simp;omega
 have HT:=hide hT
 have HF:=hide hF
 clear hT hF
 go_enter Tryz.func12,Tryz.ntmps12
 go_upto_region 1 with fail
 obtain⟨u,hu⟩:∃u,(((w.alloc (.cells #[.int .i64 (V:Int),.slice A L c] 24)).alloc (.cells #[.int .u8 k,.int .i64 j1,.int .i64 j2,.int .i64 j3,.int .i64 j4] 26)).alloc (.cells #[.int .i64 kk] 3)).alloc (.cells #[.int .i64 0,.slice none 0 0,.slice none 0 0,.slice none 0 0,.int .i64 0,.int .i64 0] 33)=u:=⟨_,rfl⟩
 rw[hu]
 have HU:=hide (allocs4 hu)
 clear hu
 have hzu:u.heap.size=w.heap.size+4:=HU.out.2.1
 obtain⟨c0,c1⟩:=zr2 HU.out.2.2.1
 obtain⟨d0,d1,d2,d3,d4⟩:=zr5 HU.out.2.2.2.1
 have kc:u.cell? ⟨w.heap.size+1+1,0,none⟩=some (.int .i64 kk):=cell_of_row _ _ 0 _ _ _ HU.out.2.2.2.2.1
 have hz0:w.heap.size<u.heap.size:=by omega
 have hz1:w.heap.size+1<u.heap.size:=by omega
 have hz2:w.heap.size+1+1<u.heap.size:=by omega
 have hck:=acheck_any u k j1 j2 j3 j4 (V:Int) A es L c HL.out ((HE.out.below HU.out.1 (Nat.le_refl _)).more HU.out.1.size) hL9
 rw[HEe.out] at hck
 have HCK:=hide hck
 clear hck
 go_wp2_with fail
 refine HCK.out.mono ?_
 rintro e y ⟨rfl,hy⟩
 clear c0 c1 d0 d1 d2 d3 d4 hz0 hz1 kc hz2
 have HY:=hide hy
 have syu:u.heap.size≤y.heap.size:=hy.size
 clear hy
 have HBw:=hide (HU.out.1.trans (HY.out.mono (by omega)))
 have HEy:=hide ((HE.out.below HBw.out (Nat.le_refl _)).more HBw.out.size)
 have HRw:=hide ((HY.out.block (w.heap.size+3) (by omega)).trans HU.out.2.2.2.2.2)
 obtain⟨c0,c1⟩:=zr2 ((HY.out.block _ (by omega)).trans HU.out.2.2.1)
 obtain⟨d0,d1,d2,d3,d4⟩:=zr5 ((HY.out.block _ (by omega)).trans HU.out.2.2.2.1)
 have kc:y.cell? ⟨w.heap.size+1+1,0,none⟩=some (.int .i64 kk):=cell_of_row _ _ 0 _ _ _ ((HY.out.block _ (by omega)).trans HU.out.2.2.2.2.1)
 have hz0:w.heap.size<y.heap.size:=by omega
 have hz1:w.heap.size+1<y.heap.size:=by omega
 have hz2:w.heap.size+1+1<y.heap.size:=by omega
 go_wp2_with fail
 refine (tillAt_any y V hV A es L c HL.out hL5 HEy.out hEB k j1 j2 j3 j4 (w.heap.size+2) kk ((HY.out.block _ (by omega)).trans HU.out.2.2.2.2.1) kk.toNat (by omega) HT.out HF.out).mono ?_
 rw[HEe.out]
 rintro e z (⟨h0,_⟩ | ⟨_,Av,Ac,Ai,ccv,ccc,cci,rfl,hin,hb,n1,n2,n3⟩)
 ·exact absurd rfl h0
 have HIN:=hide hin
 have HZ:=hide hb
 have HN:=hide (And.intro n1 (And.intro n2 n3))
 have szz:y.heap.size≤z.heap.size:=hb.size
 clear hin hb n1 n2 n3
 clear c0 c1 d0 d1 d2 d3 d4 hz0 hz1 kc hz2
 have HRow:=hide ((HZ.out.block (w.heap.size+3) (by omega)).trans HRw.out)
 have hRz:w.heap.size+1+1+1<z.heap.size:=by omega
 obtain⟨q0,q1,q2,q3,q4,q5⟩:=zr6 HRow.out
 have zq:=zf HRow.out;have f0:=zq 0;have f1:=zq 1;have f2:=zq 2;have f3:=zq 3;have f4:=zq 4;have f5:=zq 5;clear zq
 go_wp2
 obtain⟨wf,hwf⟩:∃q,(((((z.setCell ⟨w.heap.size+1+1+1,0,none⟩ (.int .i64 (atV k j2 j3 es V kk.toNat).st)).setCell ⟨w.heap.size+1+1+1,1,none⟩ (.slice Av V ccv)).setCell ⟨w.heap.size+1+1+1,2,none⟩ (.slice Ac V ccc)).setCell ⟨w.heap.size+1+1+1,3,none⟩ (.slice Ai V cci)).setCell ⟨w.heap.size+1+1+1,4,none⟩ (.int .i64 (atV k j2 j3 es V kk.toNat).sm)).setCell ⟨w.heap.size+1+1+1,5,none⟩ (.int .i64 (atV k j2 j3 es V kk.toNat).mo)=q:=⟨_,rfl⟩
 have hF:=far6 z (w.heap.size+1+1+1) (w.heap.size+1+1+1) (.int .i64 (atV k j2 j3 es V kk.toNat).st) (.slice Av V ccv) (.slice Ac V ccc) (.slice Ai V cci) (.int .i64 (atV k j2 j3 es V kk.toNat).sm) (.int .i64 (atV k j2 j3 es V kk.toNat).mo) HRow.out
 rw[hwf] at hF ⊢
 obtain⟨FF,HY⟩:=hF
 obtain⟨y0,y1,y2,y3,y4,y5⟩:=cells6 HY
 clear hwf HY
 exact bodyPost_ret (v:=.tuple #[.agg #[.int .i64 (atV k j2 j3 es V kk.toNat).st,.slice Av V ccv,.slice Ac V ccc,.slice Ai V cci,.int .i64 (atV k j2 j3 es V kk.toNat).sm,.int .i64 (atV k j2 j3 es V kk.toNat).mo],.int .i64 0]) (by simp[results,Tryz.results12,go_sem,y0,y1,y2,y3,y4,y5]) rfl (.inr ⟨rfl,Av,Ac,Ai,ccv,ccc,cci,rfl,⟨FF.rd HIN.out.vals HN.out.1 (by omega) (by omega),FF.rd HIN.out.chg HN.out.2.1 (by omega) (by omega),FF.rd HIN.out.inb HN.out.2.2 (by omega) (by omega)⟩,(HBw.out.trans (HZ.out.mono (by omega))).trans (FF.below (by omega) (by omega)),HN.out.1.mono (by omega),HN.out.2.1.mono (by omega),HN.out.2.2.mono (by omega)⟩)
attribute [local go_sem] Oper.semAt_some
def es3:List Ed:=[(0,1,4),(0,2,1),(2,1,2)]
def insI (x:Int):List Int→List Int
 | []=>[x]
 | y :: l=>if x≤y then x :: y :: l else y :: insI x l
def sorI (l:List Int):List Int:=l.foldr insI []
theorem insI_perm (x:Int):∀l,(insI x l).Perm (x :: l)
 | []=>List.Perm.refl _
 | y :: l=>by
  unfold insI
  split
  ·exact List.Perm.refl _
  exact ((insI_perm x l).cons y).trans (List.Perm.swap x y l)
theorem insI_up (x:Int):∀{l:List Int},l.Pairwise (·≤·)→(insI x l).Pairwise (·≤·)
 | [],_=>by simp[insI]
 | y :: l,h=>by
  have h2:=List.pairwise_cons.1 h
  unfold insI
  split
  ·rename_i hx
   refine List.pairwise_cons.2 ⟨fun z hz=>?_,h⟩
   rcases List.mem_cons.1 hz with rfl | hz
   ·exact hx
   exact Int.le_trans hx (h2.1 z hz)
  rename_i hx
  refine List.pairwise_cons.2 ⟨fun z hz=>?_,insI_up x h2.2⟩
  rcases List.mem_cons.1 ((insI_perm x l).mem_iff.1 hz) with rfl | hz
  ·omega
  exact h2.1 z hz
theorem sorI_perm:∀l,(sorI l).Perm l
 | []=>List.Perm.refl _
 | x :: l=>(insI_perm x (sorI l)).trans ((sorI_perm l).cons x)
theorem sorI_up:∀l,(sorI l).Pairwise (·≤·)
 | []=>List.Pairwise.nil
 | x :: l=>insI_up x (sorI_up l)
theorem pw_eq:∀{a b:List Int},a.Pairwise (·≤·)→b.Pairwise (·≤·)→a.Perm b→a=b
 | [],b,_,_,h=>(List.Perm.nil_eq h)
 | x :: a,[],_,_,h=>(List.Perm.eq_nil h)
 | x :: a,y :: b,ha,hb,h=>by
  have h1:=List.pairwise_cons.1 ha
  have h2:=List.pairwise_cons.1 hb
  have e:x=y:=by
   have hx:x∈y :: b:=h.mem_iff.1 (List.mem_cons_self ..)
   have hy:y∈x :: a:=h.mem_iff.2 (List.mem_cons_self ..)
   rcases List.mem_cons.1 hx with e | hx
   ·exact e
   rcases List.mem_cons.1 hy with e | hy
   ·exact e.symm
   have:=h1.1 y hy
   have:=h2.1 x hx
   omega
  subst e
  rw[pw_eq h1.2 h2.2 (List.Perm.cons_inv h)]
theorem sortI_eq:sortI=sorI:=funext fun l=>pw_eq (sort_up l) (sorI_up l) ((List.mergeSort_perm l _).trans (sorI_perm l).symm)
theorem TillPost.lit {w:World} {V:Nat} {s:SV} {e:Ending} {w':World} {t:Int} {l:List Int} (h:TillPost w 0 V s e w') (ht:s.st=t) (hl:s.vals=l) :
  ∃Av Ac Ai cv cc ci sm mo,e = .returned (.tuple #[.agg #[.int .i64 t,.slice Av V cv,.slice Ac V cc,.slice Ai V ci,.int .i64 sm,.int .i64 mo],.int .i64 0])∧Rd w' w'.heap.size Av (i64s l)∧Below w.heap.size w w':=by
 rcases h with ⟨h,_⟩ | ⟨_,Av,Ac,Ai,cv,cc,ci,rfl,hin,hb,_⟩
 ·exact absurd rfl h
 subst ht hl
 exact⟨Av,Ac,Ai,cv,cc,ci,s.sm,s.mo,rfl,hin.vals,hb⟩
def WkPost (x:World) (t:Int) (l:List Int) (e:Ending) (w':World):Prop:=
  ∃Av Ac Ai cv cc ci sm mo,e = .returned (.tuple #[.agg #[.int .i64 t,.slice Av 4 cv,.slice Ac 4 cc,.slice Ai 4 ci,.int .i64 sm,.int .i64 mo],.int .i64 0])∧Rd w' w'.heap.size Av (i64s l)∧Below x.heap.size x w'
theorem lab2:(atV 2 0 0 es3 4 2).vals=[0,0,0,3]:=by
 show (nextV 2 0 es3 4 (nextV 2 0 es3 4 (startV 2 0 es3 4))).vals=_
 delta nextV startV tellV toldM rowsV rowV sndD sndL lbMs nearF
 rw[sortI_eq]
 kernel_rfl
theorem lab1d:doneF 2 9 0 (atV 2 0 0 es3 4 1).st (atV 2 0 0 es3 4 1).mo=false:=by
 show doneF 2 9 0 (nextV 2 0 es3 4 (startV 2 0 es3 4)).st (nextV 2 0 es3 4 (startV 2 0 es3 4)).mo=false
 delta nextV startV tellV toldM rowsV rowV sndD sndL lbMs nearF
 rw[sortI_eq]
 kernel_rfl
theorem lab2d:doneF 2 9 0 (atV 2 0 0 es3 4 2).st (atV 2 0 0 es3 4 2).mo=true:=by
 show doneF 2 9 0 (nextV 2 0 es3 4 (nextV 2 0 es3 4 (startV 2 0 es3 4))).st (nextV 2 0 es3 4 (nextV 2 0 es3 4 (startV 2 0 es3 4))).mo=true
 delta nextV startV tellV toldM rowsV rowV sndD sndL lbMs nearF
 rw[sortI_eq]
 kernel_rfl
theorem lab_run:runN 2 9 0 0 0 es3 4=2:=by
 have h0:doneF 2 9 0 (atV 2 0 0 es3 4 0).st (atV 2 0 0 es3 4 0).mo=false:=by kernel_rfl
 have h1:=lab1d
 have h2:=lab2d
 show firstN (fun n=>doneF 2 9 0 (atV 2 0 0 es3 4 n).st (atV 2 0 0 es3 4 n).mo) 9=2
 rw[firstN,if_neg (by rw[h0];decide),firstN,if_neg (by show ¬doneF 2 9 0 (atV 2 0 0 es3 4 1).st (atV 2 0 0 es3 4 1).mo=true;rw[h1];decide),firstN,if_pos (show doneF 2 9 0 (atV 2 0 0 es3 4 2).st (atV 2 0 0 es3 4 2).mo=true from h2)]
theorem wk1 (x:World) (A:Option Addr) (hE:Eds x x.heap.size A es3):Calls Tryz.prog 12 #[.agg #[.int .i64 4,.slice A 3 3],.agg #[.int .u8 3,.int .i64 9,.int .i64 0,.int .i64 0,.int .i64 0],.int .i64 1] x (WkPost x 1 [0,4,1,4611686018427387904]):=by
 have h:=qat_any x 4 A es3 3 3 rfl (by omega) hE 3 9 0 0 0 1 (fun _=>by omega)
 rw[show atE (acheckF 3 9 0 0 0 4 es3) 1=0 by kernel_rfl] at h
 exact h.mono fun e w' h=>h.lit (by kernel_rfl) (by kernel_rfl)
theorem wk2 (x:World) (A:Option Addr) (hE:Eds x x.heap.size A es3):Calls Tryz.prog 21 #[.agg #[.int .i64 4,.slice A 3 3],.agg #[.int .u8 3,.int .i64 9,.int .i64 0,.int .i64 0,.int .i64 0]] x (WkPost x 3 [0,3,1,4611686018427387904]):=by
 have h:=qrun_any x 4 A es3 3 3 rfl (by omega) hE 3 9 0 0 0 (fun _=>by omega)
 rw[show acheckF 3 9 0 0 0 4 es3=0 by kernel_rfl,show runN 3 9 0 0 0 es3 (4:Int).toNat=3 by kernel_rfl] at h
 exact h.mono fun e w' h=>h.lit (by kernel_rfl) (by kernel_rfl)
theorem wk3 (x:World) (A:Option Addr) (hE:Eds x x.heap.size A es3):Calls Tryz.prog 21 #[.agg #[.int .i64 4,.slice A 3 3],.agg #[.int .u8 2,.int .i64 9,.int .i64 0,.int .i64 0,.int .i64 0]] x (WkPost x 2 [0,0,0,3]):=by
 have h:=qrun_any x 4 A es3 3 3 rfl (by omega) hE 2 9 0 0 0 (fun _=>by omega)
 rw[show acheckF 2 9 0 0 0 4 es3=0 by kernel_rfl,show runN 2 9 0 0 0 es3 (4:Int).toNat=2 from lab_run] at h
 exact h.mono fun e w' h=>h.lit (atV_st _ _ _ _ _ _) lab2
theorem wk4 (x:World) (A:Option Addr) (hE:Eds x x.heap.size A es3):Calls Tryz.prog 21 #[.agg #[.int .i64 4,.slice A 3 3],.agg #[.int .u8 2,.int .i64 0,.int .i64 0,.int .i64 0,.int .i64 0]] x (WkPost x 0 [0,1,2,3]):=by
 have h:=qrun_any x 4 A es3 3 3 rfl (by omega) hE 2 0 0 0 0 (fun _=>by omega)
 rw[show acheckF 2 0 0 0 0 4 es3=0 by kernel_rfl,show runN 2 0 0 0 0 es3 (4:Int).toNat=0 by rfl] at h
 exact h.mono fun e w' h=>h.lit (by kernel_rfl) (by kernel_rfl)
theorem wkE (w:World):Eds (w.alloc (.cells #[.int .i64 0,.int .i64 1,.int .i64 4,.int .i64 0,.int .i64 2,.int .i64 1,.int .i64 2,.int .i64 1,.int .i64 2] 58)) (w.alloc (.cells #[.int .i64 0,.int .i64 1,.int .i64 4,.int .i64 0,.int .i64 2,.int .i64 1,.int .i64 2,.int .i64 1,.int .i64 2] 58)).heap.size (some ⟨w.heap.size,0,none⟩) es3:=by
 refine Eds.of_rd ?_ (wt_of (by decide))
 have h:=Rd.new w #[.int .i64 0,.int .i64 1,.int .i64 4,.int .i64 0,.int .i64 2,.int .i64 1,.int .i64 2,.int .i64 1,.int .i64 2] 58 (0,0)
 rw[World.size_alloc]
 exact h
theorem rd4 (w:World) (a b c d:Int):Rd (w.alloc (.cells #[.int .i64 a,.int .i64 b,.int .i64 c,.int .i64 d] 2)) (w.alloc (.cells #[.int .i64 a,.int .i64 b,.int .i64 c,.int .i64 d] 2)).heap.size (some ⟨w.heap.size,0,none⟩) ([a,b,c,d].map (Value.int .i64)):=by
 have h:=Rd.new w #[.int .i64 a,.int .i64 b,.int .i64 c,.int .i64 d] 2 (0,0)
 rw[←show (w.alloc (.cells #[.int .i64 a,.int .i64 b,.int .i64 c,.int .i64 d] 2)).heap.size=w.heap.size+1 by simp] at h
 exact h
theorem works_any (w:World):Calls Tryz.prog 11 #[] w fun e w'=>e = .returned (.bool true)∧Below w.heap.size w w':=by
 go_enter Tryz.func11,Tryz.ntmps11
 go_upto_region 3 with fail
 obtain⟨v,hv⟩:∃v,((w.alloc (.cells #[.int .i64 0,.int .i64 1,.int .i64 4,.int .i64 0,.int .i64 2,.int .i64 1,.int .i64 2,.int .i64 1,.int .i64 2] 58)).alloc (.cells #[.int .i64 4,.slice (some ⟨w.heap.size,0,none⟩) 3 3] 24)).alloc (.cells #[.int .u8 3,.int .i64 9,.int .i64 0,.int .i64 0,.int .i64 0] 26)=v:=⟨_,rfl⟩
 rw[hv]
 have HU:=hide (allocs3 hv)
 have HE:=hide (show Eds v v.heap.size (some ⟨w.heap.size,0,none⟩) es3 from by rw[←hv];exact (((wkE w).below ((Below.refl _ _).alloc (Nat.le_refl _) _ |>.alloc (by simp) _) (Nat.le_refl _)).more (by simp)))
 clear hv
 have hzv:v.heap.size=w.heap.size+3:=HU.out.2.1
 have HB0:=hide HU.out.1
 have K1:=hide (show Below v.heap.size v v from Below.refl _ _)
 obtain⟨c0,c1⟩:=zr2 ((K1.out.block _ (by omega)).trans HU.out.2.2.2.1)
 obtain⟨d0,d1,d2,d3,d4⟩:=zr5 ((K1.out.block _ (by omega)).trans HU.out.2.2.2.2)
 have sz:v.heap.size≤v.heap.size:=K1.out.size
 have z1:w.heap.size+1<v.heap.size:=by omega
 have z2:w.heap.size+1+1<v.heap.size:=by omega
 go_wp2_with fail
 refine (wk1 v _ ((HE.out.below K1.out (Nat.le_refl _)).more K1.out.size)).mono ?_
 rintro e y1 ⟨Av1,Ac1,Ai1,cv1,cc1,ci1,sm1,mo1,rfl,hr,hb⟩
 have HR1:=hide hr
 have HY1:=hide hb
 have sy1:v.heap.size≤y1.heap.size:=hb.size
 clear hr hb c0 c1 d0 d1 d2 d3 d4 z1 z2
 go_upto_region 4 with fail
 obtain⟨a1,ha⟩:∃q,y1.alloc (.cells #[.int .i64 1,.slice Av1 4 cv1,.slice Ac1 4 cc1,.slice Ai1 4 ci1,.int .i64 sm1,.int .i64 mo1] 33)=q:=⟨_,rfl⟩
 have HA1:=hide (show Below y1.heap.size y1 a1 by rw[←ha];exact (Below.refl _ _).alloc (Nat.le_refl _) _)
 have HS1:=hide (show a1.heap[y1.heap.size]?=some (.cells #[.int .i64 1,.slice Av1 4 cv1,.slice Ac1 4 cc1,.slice Ai1 4 ci1,.int .i64 sm1,.int .i64 mo1] 33) by rw[←ha];exact heap_alloc_last _ _)
 have sa1:y1.heap.size+1≤a1.heap.size:=by rw[←ha];simp
 rw[ha]
 clear ha
 obtain⟨T1,hT⟩:∃q,y1.heap.size=q:=⟨_,rfl⟩
 have HT1:=hide hT
 rw[hT] at HS1 sa1 ⊢
 clear hT
 have KC1:=hide ((K1.out.trans (HY1.out.mono sz)).trans (HA1.out.mono (by omega)))
 have hst1:T1<a1.heap.size:=by omega
 clear sz
 have K2:=hide (show Below v.heap.size v a1 from (KC1.out))
 obtain⟨c0,c1⟩:=zr2 ((K2.out.block _ (by omega)).trans HU.out.2.2.2.1)
 obtain⟨d0,d1,d2,d3,d4⟩:=zr5 ((K2.out.block _ (by omega)).trans HU.out.2.2.2.2)
 have sz:v.heap.size≤a1.heap.size:=K2.out.size
 have z1:w.heap.size+1<a1.heap.size:=by omega
 have z2:w.heap.size+1+1<a1.heap.size:=by omega
 go_wp2_with fail
 refine (wk2 a1 _ ((HE.out.below K2.out (Nat.le_refl _)).more K2.out.size)).mono ?_
 rintro e y2 ⟨Av2,Ac2,Ai2,cv2,cc2,ci2,sm2,mo2,rfl,hr,hb⟩
 have HR2:=hide hr
 have HY2:=hide hb
 have sy2:a1.heap.size≤y2.heap.size:=hb.size
 clear hr hb c0 c1 d0 d1 d2 d3 d4 z1 z2
 go_upto_region 5 with fail
 obtain⟨a2,ha⟩:∃q,y2.alloc (.cells #[.int .i64 3,.slice Av2 4 cv2,.slice Ac2 4 cc2,.slice Ai2 4 ci2,.int .i64 sm2,.int .i64 mo2] 33)=q:=⟨_,rfl⟩
 have HA2:=hide (show Below y2.heap.size y2 a2 by rw[←ha];exact (Below.refl _ _).alloc (Nat.le_refl _) _)
 have HS2:=hide (show a2.heap[y2.heap.size]?=some (.cells #[.int .i64 3,.slice Av2 4 cv2,.slice Ac2 4 cc2,.slice Ai2 4 ci2,.int .i64 sm2,.int .i64 mo2] 33) by rw[←ha];exact heap_alloc_last _ _)
 have sa2:y2.heap.size+1≤a2.heap.size:=by rw[←ha];simp
 rw[ha]
 clear ha
 obtain⟨T2,hT⟩:∃q,y2.heap.size=q:=⟨_,rfl⟩
 have HT2:=hide hT
 rw[hT] at HS2 sa2 ⊢
 clear hT
 have KC2:=hide ((K2.out.trans (HY2.out.mono sz)).trans (HA2.out.mono (by omega)))
 have hst2:T2<a2.heap.size:=by omega
 clear sz
 have K3:=hide (show Below v.heap.size v a2 from (KC2.out))
 obtain⟨c0,c1⟩:=zr2 ((K3.out.block _ (by omega)).trans HU.out.2.2.2.1)
 obtain⟨d0,d1,d2,d3,d4⟩:=zr5 ((K3.out.block _ (by omega)).trans HU.out.2.2.2.2)
 have sz:v.heap.size≤a2.heap.size:=K3.out.size
 have z1:w.heap.size+1<a2.heap.size:=by omega
 have z2:w.heap.size+1+1<a2.heap.size:=by omega
 go_wp2_with fail
 refine (wk3 a2 _ ((HE.out.below K3.out (Nat.le_refl _)).more K3.out.size)).mono ?_
 rintro e y3 ⟨Av3,Ac3,Ai3,cv3,cc3,ci3,sm3,mo3,rfl,hr,hb⟩
 have HR3:=hide hr
 have HY3:=hide hb
 have sy3:a2.heap.size≤y3.heap.size:=hb.size
 clear hr hb c0 c1 d0 d1 d2 d3 d4 z1 z2
 go_upto_region 6 with fail
 obtain⟨a3,ha⟩:∃q,y3.alloc (.cells #[.int .i64 2,.slice Av3 4 cv3,.slice Ac3 4 cc3,.slice Ai3 4 ci3,.int .i64 sm3,.int .i64 mo3] 33)=q:=⟨_,rfl⟩
 have HA3:=hide (show Below y3.heap.size y3 a3 by rw[←ha];exact (Below.refl _ _).alloc (Nat.le_refl _) _)
 have HS3:=hide (show a3.heap[y3.heap.size]?=some (.cells #[.int .i64 2,.slice Av3 4 cv3,.slice Ac3 4 cc3,.slice Ai3 4 ci3,.int .i64 sm3,.int .i64 mo3] 33) by rw[←ha];exact heap_alloc_last _ _)
 have sa3:y3.heap.size+1≤a3.heap.size:=by rw[←ha];simp
 rw[ha]
 clear ha
 obtain⟨T3,hT⟩:∃q,y3.heap.size=q:=⟨_,rfl⟩
 have HT3:=hide hT
 rw[hT] at HS3 sa3 ⊢
 clear hT
 have KC3:=hide ((K3.out.trans (HY3.out.mono sz)).trans (HA3.out.mono (by omega)))
 have hst3:T3<a3.heap.size:=by omega
 clear sz
 have K4:=hide (show Below v.heap.size v a3 from (KC3.out))
 obtain⟨c0,c1⟩:=zr2 ((K4.out.block _ (by omega)).trans HU.out.2.2.2.1)
 obtain⟨d0,d1,d2,d3,d4⟩:=zr5 ((K4.out.block _ (by omega)).trans HU.out.2.2.2.2)
 have sz:v.heap.size≤a3.heap.size:=K4.out.size
 have z1:w.heap.size+1<a3.heap.size:=by omega
 have z2:w.heap.size+1+1<a3.heap.size:=by omega
 go_wp2_with fail
 refine (wk4 a3 _ ((HE.out.below K4.out (Nat.le_refl _)).more K4.out.size)).mono ?_
 rintro e y4 ⟨Av4,Ac4,Ai4,cv4,cc4,ci4,sm4,mo4,rfl,hr,hb⟩
 have HR4:=hide hr
 have HY4:=hide hb
 have sy4:a3.heap.size≤y4.heap.size:=hb.size
 clear hr hb c0 c1 d0 d1 d2 d3 d4 z1 z2
 go_upto_region 7 with fail
 obtain⟨a4,ha⟩:∃q,y4.alloc (.cells #[.int .i64 0,.slice Av4 4 cv4,.slice Ac4 4 cc4,.slice Ai4 4 ci4,.int .i64 sm4,.int .i64 mo4] 33)=q:=⟨_,rfl⟩
 have HA4:=hide (show Below y4.heap.size y4 a4 by rw[←ha];exact (Below.refl _ _).alloc (Nat.le_refl _) _)
 have HS4:=hide (show a4.heap[y4.heap.size]?=some (.cells #[.int .i64 0,.slice Av4 4 cv4,.slice Ac4 4 cc4,.slice Ai4 4 ci4,.int .i64 sm4,.int .i64 mo4] 33) by rw[←ha];exact heap_alloc_last _ _)
 have sa4:y4.heap.size+1≤a4.heap.size:=by rw[←ha];simp
 rw[ha]
 clear ha
 obtain⟨T4,hT⟩:∃q,y4.heap.size=q:=⟨_,rfl⟩
 have HT4:=hide hT
 rw[hT] at HS4 sa4 ⊢
 clear hT
 have KC4:=hide ((K4.out.trans (HY4.out.mono sz)).trans (HA4.out.mono (by omega)))
 have hst4:T4<a4.heap.size:=by omega
 clear sz
 have Q1:Hid (Below a1.heap.size a1 a4):=hide (by have h4:=HY4.out.trans (HA4.out.mono HY4.out.size);have h3:=HY3.out.trans (HA3.out.mono HY3.out.size);have h2:=HY2.out.trans (HA2.out.mono HY2.out.size);exact (h2.trans (h3.mono h2.size)).trans (h4.mono (Nat.le_trans h2.size h3.size)))
 have Q2:Hid (Below a2.heap.size a2 a4):=hide (by have h4:=HY4.out.trans (HA4.out.mono HY4.out.size);have h3:=HY3.out.trans (HA3.out.mono HY3.out.size);exact h3.trans (h4.mono h3.size))
 have Q3:Hid (Below a3.heap.size a3 a4):=hide (by have h4:=HY4.out.trans (HA4.out.mono HY4.out.size);exact h4)
 have Q4:Hid (Below a4.heap.size a4 a4):=hide (by exact Below.refl _ _)
 have N0:=hide (Below.refl a4.heap.size a4)
 have sz:a4.heap.size≤a4.heap.size:=N0.out.size
 have szq:=Q1.out.size
 have GS:=(N0.out.block T1 (by omega)).trans ((Q1.out.block T1 hst1).trans HS1.out)
 obtain⟨s0,s1⟩:=zr2 GS
 have hz:T1<a4.heap.size:=by omega
 clear GS szq
 go_wp2_with fail
 have hn:=N0.out.alloc sz (.cells #[.int .i64 0,.int .i64 4,.int .i64 1,.int .i64 4611686018427387904] 2)
 have hcall:=same64_any (a4.alloc (.cells #[.int .i64 0,.int .i64 4,.int .i64 1,.int .i64 4611686018427387904] 2)) Av1 (some ⟨a4.heap.size,0,none⟩) [0,4,1,4611686018427387904] [0,4,1,4611686018427387904] 4 4 cv1 4 rfl rfl (by omega) (((HR1.out.next HA1.out).next Q1.out).next hn) (rd4 a4 0 4 1 4611686018427387904)
 rw[show eqL ([0,4,1,4611686018427387904]:List Int) [0,4,1,4611686018427387904]=true by decide] at hcall
 have HC:=hide hcall
 have HN:=hide hn
 clear hcall hn
 refine HC.out.mono ?_
 rintro e n1 ⟨rfl,hb⟩
 have N1:=hide (HN.out.trans (hb.mono HN.out.size))
 clear hb HC HN s0 s1 hz sz
 have sz:a4.heap.size≤n1.heap.size:=N1.out.size
 have szq:=Q2.out.size
 have GS:=(N1.out.block T2 (by omega)).trans ((Q2.out.block T2 hst2).trans HS2.out)
 obtain⟨s0,s1⟩:=zr2 GS
 have hz:T2<n1.heap.size:=by omega
 clear GS szq
 go_wp2_with fail
 have hn:=N1.out.alloc sz (.cells #[.int .i64 0,.int .i64 3,.int .i64 1,.int .i64 4611686018427387904] 2)
 have hcall:=same64_any (n1.alloc (.cells #[.int .i64 0,.int .i64 3,.int .i64 1,.int .i64 4611686018427387904] 2)) Av2 (some ⟨n1.heap.size,0,none⟩) [0,3,1,4611686018427387904] [0,3,1,4611686018427387904] 4 4 cv2 4 rfl rfl (by omega) (((HR2.out.next HA2.out).next Q2.out).next hn) (rd4 n1 0 3 1 4611686018427387904)
 rw[show eqL ([0,3,1,4611686018427387904]:List Int) [0,3,1,4611686018427387904]=true by decide] at hcall
 have HC:=hide hcall
 have HN:=hide hn
 clear hcall hn
 refine HC.out.mono ?_
 rintro e n2 ⟨rfl,hb⟩
 have N2:=hide (HN.out.trans (hb.mono HN.out.size))
 clear hb HC HN s0 s1 hz sz
 have sz:a4.heap.size≤n2.heap.size:=N2.out.size
 have szq:=Q3.out.size
 have GS:=(N2.out.block T3 (by omega)).trans ((Q3.out.block T3 hst3).trans HS3.out)
 obtain⟨s0,s1⟩:=zr2 GS
 have hz:T3<n2.heap.size:=by omega
 clear GS szq
 go_wp2_with fail
 have hn:=N2.out.alloc sz (.cells #[.int .i64 0,.int .i64 0,.int .i64 0,.int .i64 3] 2)
 have hcall:=same64_any (n2.alloc (.cells #[.int .i64 0,.int .i64 0,.int .i64 0,.int .i64 3] 2)) Av3 (some ⟨n2.heap.size,0,none⟩) [0,0,0,3] [0,0,0,3] 4 4 cv3 4 rfl rfl (by omega) (((HR3.out.next HA3.out).next Q3.out).next hn) (rd4 n2 0 0 0 3)
 rw[show eqL ([0,0,0,3]:List Int) [0,0,0,3]=true by decide] at hcall
 have HC:=hide hcall
 have HN:=hide hn
 clear hcall hn
 refine HC.out.mono ?_
 rintro e n3 ⟨rfl,hb⟩
 have N3:=hide (HN.out.trans (hb.mono HN.out.size))
 clear hb HC HN s0 s1 hz sz
 have sz:a4.heap.size≤n3.heap.size:=N3.out.size
 have szq:=Q4.out.size
 have GS:=(N3.out.block T4 (by omega)).trans ((Q4.out.block T4 hst4).trans HS4.out)
 obtain⟨s0,s1⟩:=zr2 GS
 have hz:T4<n3.heap.size:=by omega
 clear GS szq
 go_wp2_with fail
 have hn:=N3.out.alloc sz (.cells #[.int .i64 0,.int .i64 1,.int .i64 2,.int .i64 3] 2)
 have hcall:=same64_any (n3.alloc (.cells #[.int .i64 0,.int .i64 1,.int .i64 2,.int .i64 3] 2)) Av4 (some ⟨n3.heap.size,0,none⟩) [0,1,2,3] [0,1,2,3] 4 4 cv4 4 rfl rfl (by omega) (((HR4.out.next HA4.out).next Q4.out).next hn) (rd4 n3 0 1 2 3)
 rw[show eqL ([0,1,2,3]:List Int) [0,1,2,3]=true by decide] at hcall
 have HC:=hide hcall
 have HN:=hide hn
 clear hcall hn
 refine HC.out.mono ?_
 rintro e n4 ⟨rfl,hb⟩
 have N4:=hide (HN.out.trans (hb.mono HN.out.size))
 clear hb HC HN s0 s1 hz sz
 go_wp2
 go_ret
 exact⟨rfl,(HB0.out.trans (KC4.out.mono (by omega))).trans (N4.out.mono (by have:=KC4.out.size;omega))⟩
end Go.Proofs.YtpgbjabifhjogaaGreat

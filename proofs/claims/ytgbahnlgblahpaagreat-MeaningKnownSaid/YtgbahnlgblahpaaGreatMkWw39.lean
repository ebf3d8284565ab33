/- Lemmas: Mrr. -/
import Derived.Test.YtgbahnlgblahpaaGreatProg
import Derived.Deep.Strs
import Derived.Test.YtgbahnlgblahpaaGreatMkWw30
import Derived.Test.YtgbahnlgblahpaaGreatMkWw38
set_option linter.unusedVariables false
set_option linter.unusedSimpArgs false
set_option maxRecDepth 100000
set_option maxHeartbeats 16000000
namespace Go.Proofs.YtgbahnlgblahpaaGreat
open Go.RowKit
def resL (k j2 V:Int) (es:List Ed):List Int:=if k=2 then labL V es else distL V es j2
theorem acheck_src {k j1 j2 j3 j4 V:Int} {es:List Ed} (h:acheckF k j1 j2 j3 j4 V es=0):0≤j2∧j2<V:=by
 have hc:=acheck_chk h
 obtain⟨h1,_⟩:=checkF_zero hc
 unfold acheckF at h
 rw[if_neg (by rw[hc];decide)] at h
 split at h
 ·rename_i h3
  have hm:=h3.2.2.2
  unfold mayK at hm
  split at hm
  ·simp only[Bool.and_eq_true,decide_eq_true_eq] at hm;omega
  split at hm
  ·simp only[Bool.and_eq_true,decide_eq_true_eq] at hm;omega
  simp only[Bool.and_eq_true,decide_eq_true_eq] at hm;omega
 cases h
theorem acheck_dist {k j1 j2 j3 j4 V:Int} {es:List Ed} (h:acheckF k j1 j2 j3 j4 V es=0):distE V es j2=0:=by
 obtain⟨h1,h2⟩:=acheck_src h
 unfold distE
 rw[if_pos (acheck_chk h),if_pos ⟨h1,h2⟩]
section
variable {k j1 j2 j3 j4:Int} {es:List Ed} {M:Nat}
theorem run_vals (h:acheckF k j1 j2 j3 j4 (M:Int) es=0) (hk:k=2∨k=3) {n:Nat} (hn:(1≤n∧(atV k j2 j3 es M n).mo≤0)∨M≤n):(atV k j2 j3 es M n).vals=resL k j2 (M:Int) es:=by
 have hc:=acheck_chk h
 obtain⟨h1,h2⟩:=acheck_src h
 obtain⟨hV1,hV2,_⟩:=checkF_zero hc
 have hw:=within_of hc
 rw[Int.toNat_natCast] at hw
 have hlen:=(atV_ok (k:=k) (j2:=j2) (j3:=j3) (es:=es) (V:=M) (by omega) (acheck_ok h).1.2.2 n).lv
 rcases hk with rfl | rfl
 ·unfold resL labL
  rw[if_pos rfl,if_pos hc,Int.toNat_natCast]
  refine ext_at (by rw[hlen];simp[labI]) (fun i hi=>?_)
  rw[hlen] at hi
  have e:at_ (labI es M) (i:Int)=((labF es i:Nat):Int):=by
   rw[at_nat,labI,List.getElem?_map,List.getElem?_range hi];rfl
  rw[←vA_at,e]
  rcases hn with ⟨a,b⟩ | a
  ·exact lab_still hw a b hi
  exact lab_far hw (by omega) a hi
 unfold resL distL
 rw[if_neg (by decide),if_pos (acheck_dist h)]
 rcases hn with ⟨a,b⟩ | a
 ·exact way_still hc h1 h2 a b
 exact way_far hc h1 h2 a
theorem run_done (h:acheckF k j1 j2 j3 j4 (M:Int) es=0) (hk:k=2∨k=3):(runN k j1 j2 j3 j4 es M:Int)≤j1∧((runN k j1 j2 j3 j4 es M:Int)<j1∨(M:Int)≤j1→(atV k j2 j3 es M (runN k j1 j2 j3 j4 es M)).vals=resL k j2 (M:Int) es):=by
 obtain⟨_,_,hj0,hj1⟩:=acheck_ok h
 obtain⟨r1,r2,_⟩:=runN_spec (j2:=j2) (j3:=j3) (j4:=j4) (es:=es) (V:=M) (show k=1∨k=2∨k=3 from .inr hk) hj0
 obtain⟨n,hn⟩:∃q,runN k j1 j2 j3 j4 es M=q:=⟨_,rfl⟩
 rw[hn] at r1 r2 ⊢
 refine⟨by omega,fun hh=>run_vals h hk ?_⟩
 rw[atV_st] at r1
 unfold doneF at r1
 rw[Bool.and_eq_true] at r1
 have r3:=r1.2
 rw[Bool.or_eq_true,Bool.and_eq_true] at r3
 simp only[decide_eq_true_eq] at r3
 rcases r3 with h1 | ⟨h1,h2⟩
 ·exact .inr (by omega)
 exact .inl ⟨by omega,by rw[if_neg (by omega)] at h2;exact h2⟩
theorem means_run (h:acheckF k j1 j2 j3 j4 (M:Int) es=0):meansF k j1 j2 j3 j4 (M:Int) es (atV k j2 j3 es M (runN k j1 j2 j3 j4 es M))=true:=by
 unfold meansF
 rw[if_neg (by rw[h];decide)]
 obtain⟨_,hk,hj0,hj1⟩:=acheck_ok h
 by_cases hk1:k=1
 ·subst hk1
  rw[if_pos rfl,Int.toNat_natCast]
  simp[sameV,eqL]
 have hk2:k=2∨k=3:=by omega
 obtain⟨h1,h2⟩:=run_done h hk2
 obtain⟨n,hn⟩:∃q,runN k j1 j2 j3 j4 es M=q:=⟨_,rfl⟩
 rw[hn] at h1 h2 ⊢
 rw[if_neg hk1,atV_st,if_neg (by omega),Int.toNat_natCast,Int.toNat_natCast]
 by_cases he:(n:Int)=j1
 ·rw[if_pos ⟨he,rfl⟩]
 rw[if_neg (fun g=>he g.1)]
 have hv:=h2 (.inl (by omega))
 unfold resL at hv
 rw[hv]
 split <;> simp[eqL]
theorem set_ne {l:List Int} {v:Nat} {x:Int} (hv:v<l.length) (hne:at_ l (v:Int)≠x):l≠l.set v x:=fun e=>by
 apply hne
 rw[e,at_set _ _ _ _ hv,if_pos rfl]
theorem means_off (h:acheckF k j1 j2 j3 j4 (M:Int) es=0) {v:Nat} {x:Int} (hv:v<M) (hne:at_ (atV k j2 j3 es M (runN k j1 j2 j3 j4 es M)).vals (v:Int)≠x) (hs:¬((runN k j1 j2 j3 j4 es M:Int)=j1∧j1<(M:Int))) (inb:List Ml) (chg:List Bool) :
  meansF k j1 j2 j3 j4 (M:Int) es ⟨(atV k j2 j3 es M (runN k j1 j2 j3 j4 es M)).st,(atV k j2 j3 es M (runN k j1 j2 j3 j4 es M)).vals.set v x,chg,inb,(atV k j2 j3 es M (runN k j1 j2 j3 j4 es M)).sm,(atV k j2 j3 es M (runN k j1 j2 j3 j4 es M)).mo⟩=false:=by
 unfold meansF
 rw[if_neg (by rw[h];decide)]
 obtain⟨⟨hV1,hV5,hEB⟩,hk,hj0,hj1⟩:=acheck_ok h
 have hlen:=(atV_ok (k:=k) (j2:=j2) (j3:=j3) (es:=es) (V:=M) (by omega) hEB (runN k j1 j2 j3 j4 es M)).lv
 have hne2:=set_ne (by rw[hlen];exact hv) hne
 by_cases hk1:k=1
 ·subst hk1
  rw[if_pos rfl,Int.toNat_natCast]
  unfold sameV
  have:eqL (atV 1 j2 j3 es M (runN 1 j1 j2 j3 j4 es M)).vals ((atV 1 j2 j3 es M (runN 1 j1 j2 j3 j4 es M)).vals.set v x)=false:=by unfold eqL;exact decide_eq_false hne2
  rw[this]
  simp
 have hk2:k=2∨k=3:=by omega
 obtain⟨h1,h2⟩:=run_done h hk2
 obtain⟨n,hn⟩:∃q,runN k j1 j2 j3 j4 es M=q:=⟨_,rfl⟩
 rw[hn] at h1 h2 hs hne2 ⊢
 have hv2:=h2 (by omega)
 rw[if_neg hk1]
 dsimp only
 rw[atV_st,if_neg (by omega),Int.toNat_natCast,Int.toNat_natCast,if_neg (fun g=>hne2 g.2)]
 unfold resL at hv2
 by_cases h9:k=2
 ·rw[if_pos h9] at hv2 ⊢
  rw[←hv2];unfold eqL;exact decide_eq_false hne2
 rw[if_neg h9] at hv2 ⊢
 rw[←hv2];unfold eqL;exact decide_eq_false hne2
end
end Go.Proofs.YtgbahnlgblahpaaGreat

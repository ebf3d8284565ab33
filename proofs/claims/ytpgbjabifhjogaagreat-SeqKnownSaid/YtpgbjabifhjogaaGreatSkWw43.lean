/- Lemmas: Qgr, Qgt, Qgw, Qgo. -/
import Derived.Test.YtpgbjabifhjogaaGreatProg
import Derived.Deep.Strs
import Derived.Test.YtpgbjabifhjogaaGreatSkWw42
set_option linter.unusedVariables false
set_option linter.unusedSimpArgs false
set_option maxRecDepth 100000
set_option maxHeartbeats 16000000
namespace Go.Proofs.YtpgbjabifhjogaaGreat
open Go.RowKit
def sumN (f:Nat→Int):Nat→Int
 | 0=>0
 | n+1=>sumN f n+f n
theorem sumN_le {f g:Nat→Int}:∀{n:Nat},(∀v,v<n→f v≤g v)→sumN f n≤sumN g n
 | 0,_=>Int.le_refl _
 | n+1,h=>by
  have h1:=sumN_le (n:=n) (fun v hv=>h v (by omega))
  have h2:=h n (by omega)
  unfold sumN
  omega
theorem sumN_nonneg {f:Nat→Int}:∀{n:Nat},(∀v,v<n→0≤f v)→0≤sumN f n
 | 0,_=>Int.le_refl _
 | n+1,h=>by
  have h1:=sumN_nonneg (n:=n) (fun v hv=>h v (by omega))
  have h2:=h n (by omega)
  unfold sumN
  omega
theorem sumN_one {f:Nat→Int}:∀{n:Nat},(∀v,v<n→0≤f v)→∀v,v<n→f v≤sumN f n
 | 0,_,v,hv=>absurd hv (Nat.not_lt_zero v)
 | n+1,h,v,hv=>by
  have h0:=sumN_nonneg (n:=n) (fun v hv=>h v (by omega))
  have h2:=h n (by omega)
  unfold sumN
  by_cases h3:v<n
  ·have:=sumN_one (n:=n) (fun v hv=>h v (by omega)) v h3
   omega
  have e:v=n:=by omega
  subst e
  omega
theorem sumN_add (f g:Nat→Int):∀n,sumN (fun v=>f v+g v) n=sumN f n+sumN g n
 | 0=>rfl
 | n+1=>by unfold sumN;rw[sumN_add f g n];omega
theorem sumN_const (c:Int):∀n:Nat,sumN (fun _=>c) n=(n:Int)*c
 | 0=>by simp[sumN]
 | n+1=>by
  unfold sumN
  rw[sumN_const c n,show ((n+1:Nat):Int)=(n:Int)+1 by omega,Int.add_mul,Int.one_mul]
theorem sumN_mul (d:Int) (f:Nat→Int):∀n,sumN (fun v=>d*f v) n=d*sumN f n
 | 0=>by simp[sumN]
 | n+1=>by unfold sumN;rw[sumN_mul d f n,Int.mul_add]
theorem sumN_upd {f g:Nat→Int} {a c:Int} (hc:0≤c) (h1:∀v:Nat,(v:Int)=a→g v≤f v+c) (h2:∀v:Nat,(v:Int)≠a→g v≤f v):∀n:Nat,sumN g n≤sumN f n+c∧((n:Int)≤a→sumN g n≤sumN f n)
 | 0=>⟨by simp[sumN];exact hc,fun _=>Int.le_refl _⟩
 | n+1=>by
  have ih:=sumN_upd hc h1 h2 n
  unfold sumN
  by_cases e:(n:Int)=a
  ·have:=ih.2 (by omega)
   have:=h1 n e
   exact⟨by omega,fun h=>by omega⟩
  have h3:=h2 n e
  exact⟨by have:=ih.1;omega,fun h=>by have:=ih.2 (by omega);omega⟩
theorem dadd_le {a b:Int} (ha:0≤a) (hb:0≤b):dadd a b≤a+b:=by
 unfold dadd dist
 split
 ·rename_i h
  (repeat split at h) <;> omega
 (repeat split) <;> omega
def msSum:List Ms→Int
 | []=>0
 | m :: l=>m.2+msSum l
theorem msSum_app:∀a b:List Ms,msSum (a ++ b)=msSum a+msSum b
 | [],b=>by simp[msSum]
 | m :: a,b=>by
  show m.2+msSum (a ++ b)=m.2+msSum a+msSum b
  rw[msSum_app a b]
  omega
theorem addM_sum {m:Ms} (hm:0≤m.2):∀{l:List Ms},inM l→msSum (addM 1 l m)≤msSum l+m.2
 | [],_=>by simp[addM,msSum]
 | y :: l,h=>by
  have hy:=h y (List.mem_cons_self ..)
  have hl:inM l:=fun x hx=>h x (List.mem_cons_of_mem _ hx)
  have ih:=addM_sum hm hl
  unfold addM
  split
  ·show y.2+msSum (addM 1 l m)≤y.2+msSum l+m.2
   omega
  split
  ·have:=dadd_le hy.1 hm
   show combF 1 y.2 m.2+msSum l≤y.2+msSum l+m.2
   rw[show combF 1 y.2 m.2=dadd y.2 m.2 from rfl]
   omega
  show m.2+(y.2+msSum l)≤y.2+msSum l+m.2
  omega
theorem docM_sum {l:List Ms} (h:inM l):msSum (docM 1 l)≤msSum l:=by
 have g:∀(l acc:List Ms),inM l→inM acc→msSum (l.foldl (addM 1) acc)≤msSum acc+msSum l:=by
  intro l
  induction l with
  | nil=>intro acc _ _;simp[msSum]
  | cons x l ih=>
   intro acc hl ha
   have hx:=hl x (List.mem_cons_self ..)
   have h1:=ih (addM 1 acc x) (fun y hy=>hl y (List.mem_cons_of_mem _ hy)) (addM_in hx ha)
   have h2:=addM_sum hx.1 ha
   show msSum (l.foldl (addM 1) (addM 1 acc x))≤msSum acc+(x.2+msSum l)
   omega
 have:=g l [] h (fun x hx=>by cases hx)
 simp only[msSum] at this
 unfold docM
 omega
theorem box_sum:∀{l:List Ms},inM l→∀n:Nat,sumN (fun v=>(boxF 1 l (v:Int)).getD 0) n≤msSum l:=by
 suffices h:∀(l:List Ms) (f:Int→Option Int),inM l→(∀v x,f v=some x→IN x)→∀n:Nat,sumN (fun v=>(l.foldl (addB 1) f (v:Int)).getD 0) n≤sumN (fun v=>(f (v:Int)).getD 0) n+msSum l from fun {l} hl n=>by
  have h1:=h l (fun _=>none) hl (fun v x hv=>by cases hv) n
  have h2:sumN (fun _=>(none:Option Int).getD 0) n=0:=by
   rw[show (fun _:Nat=>(none:Option Int).getD 0)=fun _=>(0:Int) from rfl,sumN_const]
   simp
  unfold boxF
  omega
 intro l
 induction l with
 | nil=>intro f _ _ n;simp[msSum]
 | cons m l ih=>
  intro f hl hf n
  have hm:=hl m (List.mem_cons_self ..)
  have hl2:inM l:=fun y hy=>hl y (List.mem_cons_of_mem _ hy)
  have hf2:∀v x,addB 1 f m v=some x→IN x:=fun v x hv=>by
   unfold addB bxPut at hv
   split at hv
   ·injection hv with hv
    subst hv
    cases hq:f m.1 with
    | some y=>exact comb_in (hf _ _ hq) hm
    | none=>exact hm
   exact hf v x hv
  have h1:=ih (addB 1 f m) hl2 hf2 n
  have h2:=(sumN_upd (f:=fun v=>(f (v:Int)).getD 0) (g:=fun v=>(addB 1 f m (v:Int)).getD 0) (a:=m.1) hm.1 (fun v e=>by
   unfold addB bxPut
   rw[if_pos e,e]
   cases hq:f m.1 with
   | some y=>
    have:=dadd_le (hf _ _ hq).1 hm.1
    show combF 1 y m.2≤y+m.2
    exact this
   | none=>simp) (fun v e=>by
   unfold addB bxPut
   rw[if_neg e]
   exact Int.le_refl _) n).1
  show sumN (fun v=>(l.foldl (addB 1) (addB 1 f m) (v:Int)).getD 0) n≤sumN (fun v=>(f (v:Int)).getD 0) n+(m.2+msSum l)
  omega
theorem rk_sum {x:Int} (hx:0≤x) (es:List Ed):msSum (rkMs x es)≤if es.length=0 then 0 else x:=by
 have h1:∀(c:Int) (l:List Ed),msSum (l.map fun e=>((e.2.1,c):Ms))=(l.length:Int)*c:=fun c l=>by
  induction l with
  | nil=>simp[msSum]
  | cons e l ih=>
   show c+msSum (l.map fun e=>((e.2.1,c):Ms))=((l.length+1:Nat):Int)*c
   rw[ih,show ((l.length+1:Nat):Int)=(l.length:Int)+1 by omega,Int.add_mul,Int.one_mul]
   omega
 unfold rkMs
 rw[h1]
 by_cases h0:es.length=0
 ·rw[if_pos h0,h0]
  simp
 rw[if_neg h0,(evenF_le hx).2.2 (by omega)]
 exact Int.mul_ediv_self_le (by omega)
theorem rows_tot_sum {es:List Ed} {was vals:List Int} {chs:List Bool} (hv:∀x∈vals,IN x):∀n:Nat,msSum (rowsV 1 es vals chs n).flatten+(totV 1 es was vals chs n).1≤sumN (fun v=>vals.getD v 0) n
 | 0=>by simp[rowsV,msSum,totV,sumN]
 | n+1=>by
  have ih:=rows_tot_sum (es:=es) (was:=was) (chs:=chs) hv n
  have hx:=getD_in hv n
  have h1:msSum (rowV 1 es vals chs n)≤if (fromF es n).length=0 then 0 else vals.getD n 0:=by
   refine Int.le_trans (docM_sum ?_) (rk_sum hx.1 (fromF es n))
   intro m hm
   obtain⟨e,he,rfl⟩:=List.mem_map.1 hm
   have:=evenF_le (n:=((fromF es n).length:Int)) hx.1
   exact⟨this.1,Int.le_trans this.2.1 hx.2⟩
  rw[rowsV_succ,List.flatten_append,msSum_app,show ([rowV 1 es vals chs n]:List (List Ms)).flatten=rowV 1 es vals chs n by simp,totV]
  have ht:=(totV_in (k:=1) (es:=es) (was:=was) (chs:=chs) hv n).1
  generalize totV 1 es was vals chs n=T at ih ht
  have h2:(joinF 1 T.1 T.2 (partT 1 (was.getD n 0) (vals.getD n 0) (chs.getD n false) (fromF es n).length).1 (partT 1 (was.getD n 0) (vals.getD n 0) (chs.getD n false) (fromF es n).length).2).1≤T.1+if (fromF es n).length=0 then vals.getD n 0 else 0:=by
   show dadd T.1 (if (fromF es n).length=0 then max (vals.getD n 0) 0 else 0)≤_
   refine Int.le_trans (dadd_le ht.1 (by split <;> omega)) ?_
   have:=hx.1
   split <;> omega
  unfold sumN
  split at h1
  ·rename_i h0
   rw[if_pos h0] at h2
   omega
  rename_i h0
  rw[if_neg h0] at h2
  omega
theorem takeK_le {V d g s:Int} (hV:1≤V) (h0:0≤d) (h1:d≤4294967296) (hg:0≤g) (hs:0≤s):0≤takeK V d g s∧takeK V d g s≤(4294967296-d) / V+d*(g+s / V) / 4294967296:=by
 have hq:0≤s / V:=Int.ediv_nonneg hs (by omega)
 have hr:0≤(4294967296-d) / V:=Int.ediv_nonneg (by omega) (by omega)
 have hp:0≤d*(g+s / V) / 4294967296:=Int.ediv_nonneg (Int.mul_nonneg h0 (by omega)) (by decide)
 unfold takeK
 rw[if_neg (by omega)]
 rw[Int.tdiv_eq_ediv_of_nonneg hs,Int.tdiv_eq_ediv_of_nonneg (show 0≤4294967296-d by omega)]
 split
 ·rename_i h
  have hx:=dadd_rg g (s / V)
  have hle:=dadd_le hg hq
  generalize dadd g (s / V)=x at *
  have hm:((mulF d.toNat x.toNat).1:Int)=d*x / 4294967296:=by
   unfold mulF at h ⊢
   split
   ·rename_i h2
    rw[if_pos h2] at h
    cases h
   show ((d.toNat*x.toNat / 4294967296:Nat):Int)=_
   rw[Int.natCast_ediv,Int.natCast_mul,Int.toNat_of_nonneg h0,Int.toNat_of_nonneg hx.1]
   rfl
  rw[hm]
  have h3:d*x≤d*(g+s / V):=Int.mul_le_mul_of_nonneg_left hle h0
  have h4:d*x / 4294967296≤d*(g+s / V) / 4294967296:=Int.ediv_le_ediv (by decide) h3
  have h5:0≤d*x / 4294967296:=Int.ediv_nonneg (Int.mul_nonneg h0 hx.1) (by decide)
  omega
 omega
theorem takeK_sum {V:Nat} {d s:Int} {g:Nat→Int} (hV:1≤V) (h0:0≤d) (h1:d≤4294967296) (hs:0≤s) (hg:∀v,v<V→0≤g v) (h:sumN g V+s≤4294967296):sumN (fun v=>takeK (V:Int) d (g v) s) V≤4294967296:=by
 have a1:=sumN_le (f:=fun v=>takeK (V:Int) d (g v) s) (g:=fun v=>(4294967296-d) / (V:Int)+d*(g v+s / (V:Int)) / 4294967296) (n:=V) (fun v hv=>(takeK_le (by omega) h0 h1 (hg v hv) hs).2)
 rw[sumN_add (fun _=>(4294967296-d) / (V:Int)) (fun v=>d*(g v+s / (V:Int)) / 4294967296),sumN_const] at a1
 have a2:(V:Int)*((4294967296-d) / (V:Int))≤4294967296-d:=Int.mul_ediv_self_le (by omega)
 have a3:=sumN_le (f:=fun v=>4294967296*(d*(g v+s / (V:Int)) / 4294967296)) (g:=fun v=>d*(g v+s / (V:Int))) (n:=V) (fun v hv=>Int.mul_ediv_self_le (by decide))
 rw[sumN_mul 4294967296 (fun v=>d*(g v+s / (V:Int)) / 4294967296),sumN_mul d (fun v=>g v+s / (V:Int)),sumN_add g (fun _=>s / (V:Int)),sumN_const] at a3
 have a4:(V:Int)*(s / (V:Int))≤s:=Int.mul_ediv_self_le (by omega)
 have a5:d*(sumN g V+(V:Int)*(s / (V:Int)))≤d*4294967296:=Int.mul_le_mul_of_nonneg_left (by omega) h0
 generalize sumN (fun v=>d*(g v+s / (V:Int)) / 4294967296) V=F at a1 a3
 omega
structure Told1 (es:List Ed) (V:Nat) (s:SV):Prop where
 inb:s.inb=toldM 1 es s.vals s.chg V
 sm:∃was,s.sm=(totV 1 es was s.vals s.chg V).1
 sum:sumN (fun v=>s.vals.getD v 0) V≤4294967296
theorem told_get {k:Int} {es:List Ed} {vals:List Int} {chs:List Bool} {n v:Nat} (hv:v<n):(toldM k es vals chs n).getD v (false,0)=mlOf (boxF k (rowsV k es vals chs n).flatten (v:Int)):=by
 unfold toldM mails
 rw[List.getD_eq_getElem?_getD]
 simp[ownL,hv]
theorem rank_sum {es:List Ed} {V:Nat} {s:SV} {d:Int} (hV:1≤V) (h0:0≤d) (h1:d≤4294967296) (hi:InS V s) (ht:Told1 es V s):(∀v,v<V→0≤(compV 1 d V s v).1)∧sumN (fun v=>(compV 1 d V s v).1) V≤4294967296:=by
 have hin:inM (rowsV 1 es s.vals s.chg V).flatten:=rowsV_in hi.vals
 have hg:∀v,v<V→(compV 1 d V s v).1=takeK (V:Int) d ((boxF 1 (rowsV 1 es s.vals s.chg V).flatten (v:Int)).getD 0) s.sm:=fun v hv=>by
  unfold compV compK
  rw[if_pos rfl,ht.inb,told_get hv]
  cases hq:boxF 1 (rowsV 1 es s.vals s.chg V).flatten (v:Int) with
  | none=>rfl
  | some x=>
   have:=(boxF_in hin _ _ hq).1
   show takeK (V:Int) d (gotF true x) s.sm=takeK (V:Int) d x s.sm
   rw[show gotF true x=x by unfold gotF;rw[if_pos rfl];omega]
 have hg0:∀v:Nat,0≤(boxF 1 (rowsV 1 es s.vals s.chg V).flatten (v:Int)).getD 0:=fun v=>by
  cases hq:boxF 1 (rowsV 1 es s.vals s.chg V).flatten (v:Int) with
  | none=>exact Int.le_refl _
  | some x=>exact (boxF_in hin _ _ hq).1
 obtain⟨was,hsm⟩:=ht.sm
 have hb:=box_sum hin V
 have hr:=rows_tot_sum (es:=es) (was:=was) (chs:=s.chg) hi.vals V
 rw[←hsm] at hr
 have hsum:=ht.sum
 refine⟨fun v hv=>by rw[hg v hv];exact (takeK_le (by omega) h0 h1 (hg0 v) hi.sm.1).1,?_⟩
 refine Int.le_trans (sumN_le (fun v hv=>Int.le_of_eq (hg v hv))) ?_
 exact takeK_sum hV h0 h1 hi.sm.1 (fun v _=>hg0 v) (by omega)
theorem sumN_congr {f g:Nat→Int} {n:Nat} (h:∀v,v<n→f v=g v):sumN f n=sumN g n:=Int.le_antisymm (sumN_le fun v hv=>Int.le_of_eq (h v hv)) (sumN_le fun v hv=>Int.le_of_eq (h v hv).symm)
theorem next_in {k d:Int} {es:List Ed} {V:Nat} {s:SV} (he:edsB es) (hV:1≤V) (h0:0≤d) (h1:d≤4294967296) (hk:k=1∨k=2∨k=3) (hi:InS V s) (ht:k=1→Told1 es V s):InS V (nextV k d es V s)∧(k=1→Told1 es V (nextV k d es V s)):=by
 have hv:∀x∈nextVals k d V s V,IN x:=fun x hx=>by
  obtain⟨v,hv,rfl⟩:=List.mem_map.1 hx
  have hv:=List.mem_range.1 hv
  rcases hk with rfl | hk
  ·have hr:=rank_sum hV h0 h1 hi (ht rfl)
   have h2:=sumN_one hr.1 v hv
   have h3:=hr.1 v hv
   have h4:=hr.2
   unfold IN
   omega
  have h2:=comp_falls (k:=k) (j3:=d) (V:=V) (s:=s) (v:=v) hk
  have h3:=getD_in hi.vals v
  have hm:IN (s.inb.getD v (false,0)).2:=by
   by_cases hl:v<s.inb.length
   ·rw[List.getD_eq_getElem?_getD,List.getElem?_eq_getElem hl];exact hi.inb _ (List.getElem_mem hl)
   rw[List.getD_eq_getElem?_getD,List.getElem?_eq_none (by omega)];exact IN_zero
  refine⟨?_,Int.le_trans h2 h3.2⟩
  unfold compV compK
  rcases hk with rfl | rfl
  ·rw[if_neg (by decide),if_pos rfl]
   unfold ltakeOf
   split
   ·exact hm.1
   exact h3.1
  rw[if_neg (by decide),if_neg (by decide),if_pos rfl]
  unfold takeOf
  split
  ·dsimp only;omega
  exact h3.1
 refine⟨tellV_in he (by simp[nextVals]) (by simp[nextChs]) hv,fun hk1=>?_⟩
 subst hk1
 refine⟨rfl,⟨s.vals,rfl⟩,?_⟩
 show sumN (fun v=>(nextVals 1 d V s V).getD v 0) V≤_
 rw[sumN_congr (fun v hv=>nextVals_get 1 d V s hv)]
 exact (rank_sum hV h0 h1 hi (ht rfl)).2
theorem start_in {k j2:Int} {es:List Ed} {V:Nat} (he:edsB es) (hV:1≤V) (hV5:V≤512) (hk:k=1∨k=2∨k=3):InS V (startV k j2 es V)∧(k=1→Told1 es V (startV k j2 es V)):=by
 have ev:=(evenF_le (a:=4294967296) (n:=(V:Int)) (by decide))
 have hv:∀x∈startVals k j2 V V,IN x:=fun x hx=>by
  obtain⟨v,hv,rfl⟩:=List.mem_map.1 hx
  have hv:=List.mem_range.1 hv
  unfold startA
  rcases hk with rfl | rfl | rfl
  ·rw[if_pos rfl]
   exact⟨ev.1,by have:=ev.2.1;dsimp only;omega⟩
  ·rw[if_neg (by decide),if_pos rfl]
   unfold IN
   dsimp only
   omega
  rw[if_neg (by decide),if_neg (by decide),if_pos rfl]
  unfold startOf IN
  dsimp only
  split <;> omega
 have h:=tellV_in (k:=k) (was:=startVals k j2 V V) (st:=0) he (by simp[startVals]:(startVals k j2 V V).length=V) (by simp[startChs]:(startChs k j2 V V).length=V) hv
 refine⟨⟨startV_ok (by omega) he,h.vals,h.inb,h.sm,IN_zero⟩,fun hk1=>?_⟩
 subst hk1
 refine⟨rfl,⟨startVals 1 j2 V V,rfl⟩,?_⟩
 show sumN (fun v=>(startVals 1 j2 V V).getD v 0) V≤_
 rw[sumN_congr (g:=fun _=>(4294967296:Int) / (V:Int)) (fun v hv=>by
  rw[List.getD_eq_getElem?_getD]
  simp only[startVals,List.getElem?_map,List.getElem?_range hv,Option.map_some,Option.getD_some]
  show evenF 4294967296 (V:Int)=_
  exact ev.2.2 (by omega)),sumN_const]
 exact Int.mul_ediv_self_le (by omega)
theorem at_in {k j2 d:Int} {es:List Ed} {V:Nat} (he:edsB es) (hV:1≤V) (hV5:V≤512) (h0:0≤d) (h1:d≤4294967296) (hk:k=1∨k=2∨k=3):∀n,InS V (atV k j2 d es V n)∧(k=1→Told1 es V (atV k j2 d es V n))
 | 0=>start_in he hV hV5 hk
 | n+1=>next_in he hV h0 h1 hk (at_in he hV hV5 h0 h1 hk n).1 (at_in he hV hV5 h0 h1 hk n).2
theorem acheck_damp {k j1 j2 j3 j4 V:Int} {es:List Ed} (h:acheckF k j1 j2 j3 j4 V es=0):0≤j3∧j3≤4294967296:=by
 unfold acheckF at h
 split at h
 ·rename_i h1
  exact absurd h h1
 split at h
 ·rename_i h3
  have hm:=h3.2.2.2
  unfold mayK at hm
  split at hm
  ·simp only[Bool.and_eq_true,decide_eq_true_eq] at hm
   omega
  split at hm
  ·simp only[Bool.and_eq_true,decide_eq_true_eq] at hm
   omega
  simp only[Bool.and_eq_true,decide_eq_true_eq] at hm
  omega
 cases h
def addN (f:Nat→Int):Nat→Int
 | 0=>0
 | n+1=>dadd (addN f n) (f n)
theorem addN_in (f:Nat→Int):∀n,IN (addN f n)
 | 0=>IN_zero
 | n+1=>dadd_in _ _
theorem addN_le {f:Nat→Int}:∀{n:Nat},(∀v,v<n→0≤f v)→addN f n≤sumN f n
 | 0,_=>Int.le_refl _
 | n+1,h=>by
  have h1:=addN_le (n:=n) (fun v hv=>h v (by omega))
  have h2:=dadd_le (addN_in f n).1 (h n (by omega))
  unfold addN sumN
  omega
structure GoesV (k j1 j2 j3 j4:Int) (es:List Ed) (V:Nat):Prop where
 st:∀n,InS V (atV k j2 j3 es V n)
 may:∀n,n≤2000→mayV (V:Int) (atV k j2 j3 es V n)=true
 step:∀n,n<2000→stepE 0 (V:Int) (atV k j2 j3 es V n)=0
 falls:k≠1→∀n v,v<V→(atV k j2 j3 es V (n+1)).vals.getD v 0≤(atV k j2 j3 es V n).vals.getD v 0
 sum:k=1→∀n,addN (fun v=>(atV k j2 j3 es V n).vals.getD v 0) V≤4294967296
 done:k≠1→∀n,0<n→(atV k j2 j3 es V n).mo=0→(atV k j2 j3 es V (n+1)).mo=0∧(atV k j2 j3 es V (n+1)).vals=(atV k j2 j3 es V n).vals
theorem goes_all {k j1 j2 j3 j4:Int} {es:List Ed} {V:Nat} (h:acheckF k j1 j2 j3 j4 (V:Int) es=0):GoesV k j1 j2 j3 j4 es V:=by
 obtain⟨⟨hV1,hV2,he⟩,hk,_⟩:=acheck_ok h
 have hd:=acheck_damp h
 have ha:=at_in (j2:=j2) he (show 1≤V by omega) (show V≤512 by omega) hd.1 hd.2 hk
 have hm:∀n,n≤2000→mayV (V:Int) (atV k j2 j3 es V n)=true:=fun n hn=>(ha n).1.may (by rw[atV_st];omega) (by rw[atV_st];omega)
 refine⟨fun n=>(ha n).1,hm,fun n hn=>?_,fun hk1 n v hv=>next_falls (by omega) hv,fun hk1 n=>?_,fun hk1 n hn h0=>?_⟩
 ·unfold stepE
  rw[if_neg (fun h=>h rfl),hm n (by omega),if_neg (by rw[atV_st];simp;omega)]
 ·exact Int.le_trans (addN_le fun v hv=>(getD_in (ha n).1.vals v).1) ((ha n).2 hk1).sum
 obtain⟨m,rfl⟩:∃m,n=m+1:=⟨n-1,by omega⟩
 have hs:=done_stays (j3:=j3) (show k=2∨k=3 by omega) (show (nextVals k j3 V (atV k j2 j3 es V m) V).length=V by simp[nextVals]) h0
 exact⟨hs.2,hs.1⟩
open Go.Shelf
attribute [local go_sem] Oper.semAt_some
theorem TillPost.good {w:World} {V:Nat} {s:SV} {e:Ending} {w':World} (h:TillPost w 0 V s e w') :
  ∃Av Ac Ai cv cc ci,e = .returned (.tuple #[.agg #[.int .i64 s.st,.slice Av V cv,.slice Ac V cc,.slice Ai V ci,.int .i64 s.sm,.int .i64 s.mo],.int .i64 0])∧VIn w' s Av Ac Ai∧Below w.heap.size w w'∧NewA w.heap.size Av∧NewA w.heap.size Ac∧NewA w.heap.size Ai:=by
 rcases h with ⟨h,_⟩ | ⟨_,Av,Ac,Ai,cv,cc,ci,he,hin,hb,hn⟩
 ·exact absurd rfl h
 exact⟨Av,Ac,Ai,cv,cc,ci,he,hin,hb,hn⟩
theorem seqGoes_walk (w:World) (V:Int) (A:Option Addr) (es:List Ed) (c:Nat) (hV1:-9223372036854775808≤V) (hV2:V≤9223372036854775807) (hE:Eds w w.heap.size A es) (hl:es.length≤c) (hc:c≤9223372036854775807) (hB:∀e∈es,edB e) (k j1 j2 j3 j4:Int) (hk:0≤k∧k≤255) (hj1:i64B j1) (hj2:i64B j2) (hj3:i64B j3) (hj4:i64B j4) :
  Calls Tryz.prog 8 #[.agg #[.int .i64 V,.slice A es.length c],.agg #[.int .u8 k,.int .i64 j1,.int .i64 j2,.int .i64 j3,.int .i64 j4]] w fun e w'=>e = .returned (.bool true)∧Below w.heap.size w w':=by
 have HE:=hide hE
 obtain⟨L,hL⟩:∃q,es.length=q:=⟨_,rfl⟩
 rw[hL] at hl ⊢
 have HL:=hide hL
 clear hL hE hB
 rcases hv:lit12 V es with _ | _
 ·have HV:=hide hv
  obtain⟨u,hu⟩:∃u,(w.alloc (.cells #[.int .i64 V,.slice A L c] 24)).alloc (.cells #[.int .u8 k,.int .i64 j1,.int .i64 j2,.int .i64 j3,.int .i64 j4] 26)=u:=⟨_,rfl⟩
  have HU:=hide (allocs2 hu)
  have HUe:=hide hu
  clear hu
  have hzu:u.heap.size=w.heap.size+2:=HU.out.2.1
  have hu0:w.heap.size<u.heap.size:=by omega
  have hu1:w.heap.size+1<u.heap.size:=by omega
  have K0:=hide (Below.refl u.heap.size u)
  have hlq:=lightq_any u V A es L c HL.out (by omega) ((HE.out.below HU.out.1 (Nat.le_refl _)).more HU.out.1.size)
  rw[HV.out] at hlq
  have HLQ:=hide hlq
  clear hlq
  clear hv
  obtain⟨c0,c1⟩:=zr2 ((K0.out.block _ hu0).trans HU.out.2.2.1)
  obtain⟨d0,d1,d2,d3,d4⟩:=zr5 ((K0.out.block _ hu1).trans HU.out.2.2.2)
  have hz0:w.heap.size<u.heap.size:=by have:=K0.out.size;omega
  have hz1:w.heap.size+1<u.heap.size:=by have:=K0.out.size;omega
  go_enter Tryz.func8,Tryz.ntmps8
  go_upto_region 1 with fail
  rw[HUe.out]
  go_wp2_with fail
  refine HLQ.out.mono ?_
  rintro e v1 ⟨rfl,hb⟩
  have K1:Hid (Below u.heap.size u v1):=hide hb
  have sv1:u.heap.size≤v1.heap.size:=hb.size
  clear hb
  clear c0 c1 d0 d1 d2 d3 d4 hz0 hz1
  go_wp2_with fail
  refine (works_any _).mono ?_
  rintro e zz ⟨rfl,hzz⟩
  have HZ:=hide (HU.out.1.trans ((K1.out.trans (hzz.mono K1.out.size)).mono (by omega)))
  clear hzz
  go_wp2
  go_ret
  exact⟨rfl,HZ.out⟩
 by_cases hj:j1≤30
 rotate_left
 ·have hj':30<j1:=by omega
  have HV:=hide hv
  obtain⟨u,hu⟩:∃u,(w.alloc (.cells #[.int .i64 V,.slice A L c] 24)).alloc (.cells #[.int .u8 k,.int .i64 j1,.int .i64 j2,.int .i64 j3,.int .i64 j4] 26)=u:=⟨_,rfl⟩
  have HU:=hide (allocs2 hu)
  have HUe:=hide hu
  clear hu
  have hzu:u.heap.size=w.heap.size+2:=HU.out.2.1
  have hu0:w.heap.size<u.heap.size:=by omega
  have hu1:w.heap.size+1<u.heap.size:=by omega
  have K0:=hide (Below.refl u.heap.size u)
  have hlq:=lightq_any u V A es L c HL.out (by omega) ((HE.out.below HU.out.1 (Nat.le_refl _)).more HU.out.1.size)
  rw[HV.out] at hlq
  have HLQ:=hide hlq
  clear hlq
  clear hv
  obtain⟨c0,c1⟩:=zr2 ((K0.out.block _ hu0).trans HU.out.2.2.1)
  obtain⟨d0,d1,d2,d3,d4⟩:=zr5 ((K0.out.block _ hu1).trans HU.out.2.2.2)
  have hz0:w.heap.size<u.heap.size:=by have:=K0.out.size;omega
  have hz1:w.heap.size+1<u.heap.size:=by have:=K0.out.size;omega
  go_enter Tryz.func8,Tryz.ntmps8
  go_upto_region 1 with fail
  rw[HUe.out]
  go_wp2_with fail
  refine HLQ.out.mono ?_
  rintro e v1 ⟨rfl,hb⟩
  have K1:Hid (Below u.heap.size u v1):=hide hb
  have sv1:u.heap.size≤v1.heap.size:=hb.size
  clear hb
  clear c0 c1 d0 d1 d2 d3 d4 hz0 hz1
  obtain⟨c0,c1⟩:=zr2 ((K1.out.block _ hu0).trans HU.out.2.2.1)
  obtain⟨d0,d1,d2,d3,d4⟩:=zr5 ((K1.out.block _ hu1).trans HU.out.2.2.2)
  have hz0:w.heap.size<v1.heap.size:=by have:=K1.out.size;omega
  have hz1:w.heap.size+1<v1.heap.size:=by have:=K1.out.size;omega
  go_wp2_with fail
  refine (works_any _).mono ?_
  rintro e zz ⟨rfl,hzz⟩
  have HZ:=hide (HU.out.1.trans ((K1.out.trans (hzz.mono K1.out.size)).mono (by omega)))
  clear hzz
  go_wp2
  go_ret
  exact⟨rfl,HZ.out⟩
 have hj':¬(30<j1):=by omega
 obtain⟨E,hEe⟩:∃q,acheckF k j1 j2 j3 j4 V es=q:=⟨_,rfl⟩
 have HEe:=hide hEe
 clear hEe
 by_cases hE0:E=0
 rotate_left
 ·have HV:=hide hv
  have hE1:(E == 0)=false:=by simpa using hE0
  have hE2:(E != 0)=true:=by simpa using hE0
  clear hE0
  obtain⟨u,hu⟩:∃u,(w.alloc (.cells #[.int .i64 V,.slice A L c] 24)).alloc (.cells #[.int .u8 k,.int .i64 j1,.int .i64 j2,.int .i64 j3,.int .i64 j4] 26)=u:=⟨_,rfl⟩
  have HU:=hide (allocs2 hu)
  have HUe:=hide hu
  clear hu
  have hzu:u.heap.size=w.heap.size+2:=HU.out.2.1
  have hu0:w.heap.size<u.heap.size:=by omega
  have hu1:w.heap.size+1<u.heap.size:=by omega
  have K0:=hide (Below.refl u.heap.size u)
  have hlq:=lightq_any u V A es L c HL.out (by omega) ((HE.out.below HU.out.1 (Nat.le_refl _)).more HU.out.1.size)
  rw[HV.out] at hlq
  have HLQ:=hide hlq
  clear hlq
  clear hv
  obtain⟨c0,c1⟩:=zr2 ((K0.out.block _ hu0).trans HU.out.2.2.1)
  obtain⟨d0,d1,d2,d3,d4⟩:=zr5 ((K0.out.block _ hu1).trans HU.out.2.2.2)
  have hz0:w.heap.size<u.heap.size:=by have:=K0.out.size;omega
  have hz1:w.heap.size+1<u.heap.size:=by have:=K0.out.size;omega
  go_enter Tryz.func8,Tryz.ntmps8
  go_upto_region 1 with fail
  rw[HUe.out]
  go_wp2_with fail
  refine HLQ.out.mono ?_
  rintro e v1 ⟨rfl,hb⟩
  have K1:Hid (Below u.heap.size u v1):=hide hb
  have sv1:u.heap.size≤v1.heap.size:=hb.size
  clear hb
  clear c0 c1 d0 d1 d2 d3 d4 hz0 hz1
  obtain⟨c0,c1⟩:=zr2 ((K1.out.block _ hu0).trans HU.out.2.2.1)
  obtain⟨d0,d1,d2,d3,d4⟩:=zr5 ((K1.out.block _ hu1).trans HU.out.2.2.2)
  have hz0:w.heap.size<v1.heap.size:=by have:=K1.out.size;omega
  have hz1:w.heap.size+1<v1.heap.size:=by have:=K1.out.size;omega
  have hck:=acheck_any v1 k j1 j2 j3 j4 V A es L c HL.out ((HE.out.below (HU.out.1.trans (K1.out.mono (by omega))) (Nat.le_refl _)).more (HU.out.1.trans (K1.out.mono (by omega))).size) (by omega)
  rw[HEe.out] at hck
  have HCK:=hide hck
  clear hck
  go_wp2_with fail
  refine HCK.out.mono ?_
  rintro e v2 ⟨rfl,hb⟩
  have K2:=hide (K1.out.trans (hb.mono K1.out.size))
  have sv2:v1.heap.size≤v2.heap.size:=hb.size
  clear hb
  clear c0 c1 d0 d1 d2 d3 d4 hz0 hz1
  go_wp2_with fail
  refine (works_any _).mono ?_
  rintro e zz ⟨rfl,hzz⟩
  have HZ:=hide (HU.out.1.trans ((K2.out.trans (hzz.mono K2.out.size)).mono (by omega)))
  clear hzz
  go_wp2
  go_ret
  exact⟨rfl,HZ.out⟩
 subst hE0
 have HEe0:=HEe.out
 obtain⟨⟨hV1',hV3,hEB⟩,hk3,hj0,hjj⟩:=acheck_ok HEe0
 have hL8:L≤80:=by have:=lit12_le hv;have:=HL.out;omega
 obtain⟨V,rfl⟩:∃q:Nat,V=(q:Int):=⟨V.toNat,by omega⟩
 have hV:V≤512:=by omega
 have HG:=hide (goes_all HEe0)
 have HR:=hide (runN_spec (j2:=j2) (j3:=j3) (j4:=j4) (es:=es) (V:=V) hk3 hj0)
 have HV:=hide hv
 clear HEe0 hv hk3
 obtain⟨u,hu⟩:∃u,(w.alloc (.cells #[.int .i64 (V:Int),.slice A L c] 24)).alloc (.cells #[.int .u8 k,.int .i64 j1,.int .i64 j2,.int .i64 j3,.int .i64 j4] 26)=u:=⟨_,rfl⟩
 have HU:=hide (allocs2 hu)
 have HUe:=hide hu
 clear hu
 have hzu:u.heap.size=w.heap.size+2:=HU.out.2.1
 have hu0:w.heap.size<u.heap.size:=by omega
 have hu1:w.heap.size+1<u.heap.size:=by omega
 have K0:=hide (Below.refl u.heap.size u)
 have hlq:=lightq_any u (V:Int) A es L c HL.out (by omega) ((HE.out.below HU.out.1 (Nat.le_refl _)).more HU.out.1.size)
 rw[HV.out] at hlq
 have HLQ:=hide hlq
 clear hlq
 have HST:=hide (fun (x:World) (hx:Below u.heap.size u x)=>qstart_any x (V:Int) A es L c HL.out (by omega) ((HE.out.below (HU.out.1.trans (hx.mono (by omega))) (Nat.le_refl _)).more (HU.out.1.trans (hx.mono (by omega))).size) k j1 j2 j3 j4 (fun _=>hL8))
 rw[HEe.out,show ((V:Int)).toNat=V from rfl] at HST
 have HSP:=hide (fun (x:World) (hx:Below u.heap.size u x) (n:Nat) (hn:n<2000) (B1 B2 B3:Option Addr) (e1 e2 e3:Nat) (hin:VIn x (atV k j2 j3 es V n) B1 B2 B3)=>show Calls Tryz.prog 19 #[.agg #[.int .i64 (V:Int),.slice A L c],.agg #[.int .u8 k,.int .i64 j1,.int .i64 j2,.int .i64 j3,.int .i64 j4],.agg #[.int .i64 (atV k j2 j3 es V n).st,.slice B1 V e1,.slice B2 V e2,.slice B3 V e3,.int .i64 (atV k j2 j3 es V n).sm,.int .i64 (atV k j2 j3 es V n).mo]] x (TillPost x 0 V (atV k j2 j3 es V (n+1))) from by have h:=qstep_any x (V:Int) A es L c HL.out (by omega) ((HE.out.below (HU.out.1.trans (hx.mono (by omega))) (Nat.le_refl _)).more (HU.out.1.trans (hx.mono (by omega))).size) k j1 j2 j3 j4 (fun _=>hL8) (atV k j2 j3 es V n) B1 B2 B3 V V V e1 e2 e3 ⟨(HG.out.st n).ok.lv,(HG.out.st n).ok.lc,(HG.out.st n).ok.li⟩ hin (HG.out.st n).ok.bi (by omega) (by omega);rw[HEe.out,HG.out.step n hn] at h;exact h)
 have HAT:=hide (fun (x:World) (hx:Below u.heap.size u x) (n:Nat) (hn:n≤2000)=>show Calls Tryz.prog 12 #[.agg #[.int .i64 (V:Int),.slice A L c],.agg #[.int .u8 k,.int .i64 j1,.int .i64 j2,.int .i64 j3,.int .i64 j4],.int .i64 (n:Int)] x (TillPost x 0 V (atV k j2 j3 es V n)) from by have h:=qat_any x (V:Int) A es L c HL.out (by omega) ((HE.out.below (HU.out.1.trans (hx.mono (by omega))) (Nat.le_refl _)).more (HU.out.1.trans (hx.mono (by omega))).size) k j1 j2 j3 j4 (n:Int) (fun _=>hL8);rw[HEe.out,show atE 0 (n:Int)=0 by rw[atE,if_neg (fun h=>h rfl),if_neg (by omega)]] at h;exact h)
 have HRU:=hide (fun (x:World) (hx:Below u.heap.size u x)=>qrun_any x (V:Int) A es L c HL.out (by omega) ((HE.out.below (HU.out.1.trans (hx.mono (by omega))) (Nat.le_refl _)).more (HU.out.1.trans (hx.mono (by omega))).size) k j1 j2 j3 j4 (fun _=>hL8))
 rw[HEe.out,show ((V:Int)).toNat=V from rfl] at HRU
 obtain⟨c0,c1⟩:=zr2 ((K0.out.block _ hu0).trans HU.out.2.2.1)
 obtain⟨d0,d1,d2,d3,d4⟩:=zr5 ((K0.out.block _ hu1).trans HU.out.2.2.2)
 have hz0:w.heap.size<u.heap.size:=by have:=K0.out.size;omega
 have hz1:w.heap.size+1<u.heap.size:=by have:=K0.out.size;omega
 go_enter Tryz.func8,Tryz.ntmps8
 go_upto_region 1 with fail
 rw[HUe.out]
 go_wp2_with fail
 refine HLQ.out.mono ?_
 rintro e v1 ⟨rfl,hb⟩
 have K1:Hid (Below u.heap.size u v1):=hide hb
 have sv1:u.heap.size≤v1.heap.size:=hb.size
 clear hb
 clear c0 c1 d0 d1 d2 d3 d4 hz0 hz1
 obtain⟨c0,c1⟩:=zr2 ((K1.out.block _ hu0).trans HU.out.2.2.1)
 obtain⟨d0,d1,d2,d3,d4⟩:=zr5 ((K1.out.block _ hu1).trans HU.out.2.2.2)
 have hz0:w.heap.size<v1.heap.size:=by have:=K1.out.size;omega
 have hz1:w.heap.size+1<v1.heap.size:=by have:=K1.out.size;omega
 have hck:=acheck_any v1 k j1 j2 j3 j4 (V:Int) A es L c HL.out ((HE.out.below (HU.out.1.trans (K1.out.mono (by omega))) (Nat.le_refl _)).more (HU.out.1.trans (K1.out.mono (by omega))).size) (by omega)
 rw[HEe.out] at hck
 have HCK:=hide hck
 clear hck
 go_wp2_with fail
 refine HCK.out.mono ?_
 rintro e v2 ⟨rfl,hb⟩
 have K2:=hide (K1.out.trans (hb.mono K1.out.size))
 have sv2:v1.heap.size≤v2.heap.size:=hb.size
 clear hb
 clear c0 c1 d0 d1 d2 d3 d4 hz0 hz1
 obtain⟨c0,c1⟩:=zr2 ((K2.out.block _ hu0).trans HU.out.2.2.1)
 obtain⟨d0,d1,d2,d3,d4⟩:=zr5 ((K2.out.block _ hu1).trans HU.out.2.2.2)
 have hz0:w.heap.size<v2.heap.size:=by have:=K2.out.size;omega
 have hz1:w.heap.size+1<v2.heap.size:=by have:=K2.out.size;omega
 go_wp2_with fail
 refine (HST.out v2 K2.out).mono ?_
 intro e y hpost
 obtain⟨Av0,Ac0,Ai0,cv0,cc0,ci0,he,hi0,hb,hnw0⟩:=hpost.good
 have HN0:=hide hnw0
 clear hnw0
 subst he
 have KY:=hide (K2.out.trans (hb.mono K2.out.size))
 have hby:=hide hb
 have syy:v2.heap.size≤y.heap.size:=hb.size
 clear c0 c1 d0 d1 d2 d3 d4 hz0 hz1
 clear hpost hb
 go_upto_region 4 with fail
 obtain⟨a0,ha⟩:∃x,y.alloc (.cells #[.int .i64 (startV k j2 es V).st,.slice Av0 V cv0,.slice Ac0 V cc0,.slice Ai0 V ci0,.int .i64 (startV k j2 es V).sm,.int .i64 (startV k j2 es V).mo] 33)=x:=⟨_,rfl⟩
 have hAl:Below y.heap.size y a0:=by rw[←ha];exact (Below.refl _ _).alloc (Nat.le_refl _) _
 have hSx:a0.heap[y.heap.size]?=some (.cells #[.int .i64 (startV k j2 es V).st,.slice Av0 V cv0,.slice Ac0 V cc0,.slice Ai0 V ci0,.int .i64 (startV k j2 es V).sm,.int .i64 (startV k j2 es V).mo] 33):=by rw[←ha];exact heap_alloc_last _ _
 have sa0:y.heap.size<a0.heap.size:=by rw[←ha];simp
 rw[ha]
 have HI0:=hide (hi0.next hAl)
 have KA:=hide (KY.out.trans (hAl.mono KY.out.size))
 have HBA0:=hide (hby.out.trans (hAl.mono syy))
 obtain⟨S5,hT⟩:∃x,y.heap.size=x:=⟨_,rfl⟩
 rw[hT] at hSx sa0 syy ⊢
 have HS0:=hide hSx
 have sT0:=syy
 clear ha hAl hi0 KY syy hT hSx hby
 go_wp2
 go_loopw [7] (fun vi wr=>∃(n:Nat) (Av Ac Ai:Option Addr) (cv cc ci:Nat),n≤14∧vi = .int .i64 (n:Int)∧Hid (wr.heap[S5]?=some (.cells #[.int .i64 (atV k j2 j3 es V n).st,.slice Av V cv,.slice Ac V cc,.slice Ai V ci,.int .i64 (atV k j2 j3 es V n).sm,.int .i64 (atV k j2 j3 es V n).mo] 33))∧Hid (VIn wr (atV k j2 j3 es V n) Av Ac Ai)∧Hid (Below u.heap.size u wr)) (fun vi _=>14-(intOf vi).toNat)
 case atStart=>exact⟨0,Av0,Ac0,Ai0,cv0,cc0,ci0,by omega,rfl,HS0,HI0,KA⟩
 case round=>
  obtain⟨n,Av,Ac,Ai,cv,cc,ci,hn,rfl,HS,HI,HBr⟩:=hrel
  have hSw:S5<wr.heap.size:=(Array.getElem?_eq_some_iff.1 HS.out).1
  have srw:u.heap.size≤wr.heap.size:=HBr.out.size
  by_cases hlt:n<14
  ·have hn14:(n:Int)<14:=by omega
   obtain⟨c0,c1⟩:=zr2 ((HBr.out.block _ hu0).trans HU.out.2.2.1)
   obtain⟨d0,d1,d2,d3,d4⟩:=zr5 ((HBr.out.block _ hu1).trans HU.out.2.2.2)
   have hz0:w.heap.size<wr.heap.size:=by have:=HBr.out.size;omega
   have hz1:w.heap.size+1<wr.heap.size:=by have:=HBr.out.size;omega
   obtain⟨s0,s1,s2,s3,s4,s5⟩:=zr6 HS.out
   go_wp2_with fail
   refine (HSP.out wr HBr.out n (by omega) Av Ac Ai cv cc ci HI.out).mono ?_
   intro e y hpost
   obtain⟨Av1,Ac1,Ai1,cv1,cc1,ci1,he,hi1,hb,hnw1⟩:=hpost.good
   have HN1:=hide hnw1
   clear hnw1
   subst he
   have KY:=hide (HBr.out.trans (hb.mono HBr.out.size))
   have hby:=hide hb
   have syy:wr.heap.size≤y.heap.size:=hb.size
   clear c0 c1 d0 d1 d2 d3 d4 hz0 hz1
   clear hpost hb
   go_upto_region 10 with fail
   obtain⟨a1,ha⟩:∃x,y.alloc (.cells #[.int .i64 (atV k j2 j3 es V (n+1)).st,.slice Av1 V cv1,.slice Ac1 V cc1,.slice Ai1 V ci1,.int .i64 (atV k j2 j3 es V (n+1)).sm,.int .i64 (atV k j2 j3 es V (n+1)).mo] 33)=x:=⟨_,rfl⟩
   have hAl:Below y.heap.size y a1:=by rw[←ha];exact (Below.refl _ _).alloc (Nat.le_refl _) _
   have hSx:a1.heap[y.heap.size]?=some (.cells #[.int .i64 (atV k j2 j3 es V (n+1)).st,.slice Av1 V cv1,.slice Ac1 V cc1,.slice Ai1 V ci1,.int .i64 (atV k j2 j3 es V (n+1)).sm,.int .i64 (atV k j2 j3 es V (n+1)).mo] 33):=by rw[←ha];exact heap_alloc_last _ _
   have sa1:y.heap.size<a1.heap.size:=by rw[←ha];simp
   rw[ha]
   have HI1:=hide (hi1.next hAl)
   have KB:=hide (KY.out.trans (hAl.mono KY.out.size))
   have HBA1:=hide (hby.out.trans (hAl.mono syy))
   obtain⟨T8,hT⟩:∃x,y.heap.size=x:=⟨_,rfl⟩
   rw[hT] at hSx sa1 syy ⊢
   have HS1:=hide hSx
   have sT1:=syy
   clear ha hAl hi1 KY syy hT hSx hby
   clear s0 s1 s2 s3 s4 s5
   have HSa:=hide ((HBA1.out.block S5 hSw).trans HS.out)
   have HIa:=hide (HI.out.next HBA1.out)
   obtain⟨c0,c1⟩:=zr2 ((KB.out.block _ hu0).trans HU.out.2.2.1)
   obtain⟨d0,d1,d2,d3,d4⟩:=zr5 ((KB.out.block _ hu1).trans HU.out.2.2.2)
   have hz0:w.heap.size<a1.heap.size:=by have:=KB.out.size;omega
   have hz1:w.heap.size+1<a1.heap.size:=by have:=KB.out.size;omega
   go_wp2_with fail
   refine (HAT.out a1 KB.out n (by omega)).mono ?_
   intro e y hpost
   obtain⟨Av2,Ac2,Ai2,cv2,cc2,ci2,he,hi2,hb,hnw2⟩:=hpost.good
   have HN2:=hide hnw2
   clear hnw2
   subst he
   have KY:=hide (KB.out.trans (hb.mono KB.out.size))
   have hby:=hide hb
   have syy:a1.heap.size≤y.heap.size:=hb.size
   clear c0 c1 d0 d1 d2 d3 d4 hz0 hz1
   clear hpost hb
   go_upto_region 11 with fail
   obtain⟨a2,ha⟩:∃x,y.alloc (.cells #[.int .i64 (atV k j2 j3 es V n).st,.slice Av2 V cv2,.slice Ac2 V cc2,.slice Ai2 V ci2,.int .i64 (atV k j2 j3 es V n).sm,.int .i64 (atV k j2 j3 es V n).mo] 33)=x:=⟨_,rfl⟩
   have hAl:Below y.heap.size y a2:=by rw[←ha];exact (Below.refl _ _).alloc (Nat.le_refl _) _
   have hSx:a2.heap[y.heap.size]?=some (.cells #[.int .i64 (atV k j2 j3 es V n).st,.slice Av2 V cv2,.slice Ac2 V cc2,.slice Ai2 V ci2,.int .i64 (atV k j2 j3 es V n).sm,.int .i64 (atV k j2 j3 es V n).mo] 33):=by rw[←ha];exact heap_alloc_last _ _
   have sa2:y.heap.size<a2.heap.size:=by rw[←ha];simp
   rw[ha]
   have HI2:=hide (hi2.next hAl)
   have KC:=hide (KY.out.trans (hAl.mono KY.out.size))
   have HBA2:=hide (hby.out.trans (hAl.mono syy))
   obtain⟨T10,hT⟩:∃x,y.heap.size=x:=⟨_,rfl⟩
   rw[hT] at hSx sa2 syy ⊢
   have HS2:=hide hSx
   have sT2:=syy
   clear ha hAl hi2 KY syy hT hSx hby
   have HSb:=hide ((HBA2.out.block S5 (by omega)).trans HSa.out)
   have HIb:=hide (HIa.out.next HBA2.out)
   have HTb:=hide ((HBA2.out.block T8 sa1).trans HS1.out)
   have HI1b:=hide (HI1.out.next HBA2.out)
   obtain⟨s0,s1,s2,s3,s4,s5⟩:=zr6 HSb.out
   obtain⟨y0,y1,y2,y3,y4,y5⟩:=zr6 HS2.out
   have hS5:S5<a2.heap.size:=by omega
   have hc1:=qsame_any a2 (atV k j2 j3 es V n) Av Ac Ai V V V cv cc ci ⟨(HG.out.st n).ok.lv,(HG.out.st n).ok.lc,(HG.out.st n).ok.li⟩ HIb.out (atV k j2 j3 es V n) Av2 Ac2 Ai2 V V V cv2 cc2 ci2 ⟨(HG.out.st n).ok.lv,(HG.out.st n).ok.lc,(HG.out.st n).ok.li⟩ HI2.out (by omega) (by omega) (by omega)
   rw[sameV_rfl] at hc1
   have HC1:=hide hc1
   clear hc1
   go_wp2_with fail
   refine HC1.out.mono ?_
   rintro e n1 ⟨rfl,hn1⟩
   have N1:=hide hn1
   have sn1:a2.heap.size≤n1.heap.size:=hn1.size
   clear hn1 s0 s1 s2 s3 s4 s5 y0 y1 y2 y3 y4 y5
   have KD:=hide (KC.out.trans (N1.out.mono KC.out.size))
   have HTc:=hide ((N1.out.block T8 (by omega)).trans HTb.out)
   have HSc:=hide ((N1.out.block S5 hS5).trans HSb.out)
   have HI1c:=hide (HI1b.out.next N1.out)
   have HIc:=hide (HIb.out.next N1.out)
   obtain⟨t0,t1,t2,t3,t4,t5⟩:=zr6 HTc.out
   have c0:n1.cell? ⟨w.heap.size,0,none⟩=some (.int .i64 (V:Int)):=cell_of_row _ _ 0 _ _ _ ((KD.out.block _ hu0).trans HU.out.2.2.1)
   have hz0:w.heap.size<n1.heap.size:=by omega
   have hT8:T8<n1.heap.size:=by omega
   have hc2:=dmay_any n1 (atV k j2 j3 es V (n+1)) Av1 Ac1 Ai1 V V V cv1 cc1 ci1 ⟨(HG.out.st (n+1)).ok.lv,(HG.out.st (n+1)).ok.lc,(HG.out.st (n+1)).ok.li⟩ HI1c.out (by omega) (by omega) (V:Int)
   rw[HG.out.may (n+1) (by omega)] at hc2
   have HC2:=hide hc2
   clear hc2
   go_wp2_with fail
   refine HC2.out.mono ?_
   rintro e n2 ⟨rfl,hn2⟩
   have N2:=hide hn2
   have sn2:n1.heap.size≤n2.heap.size:=hn2.size
   clear hn2 t0 t1 t2 t3 t4 t5 c0 hz0
   have KE:=hide (KD.out.trans (N2.out.mono KD.out.size))
   have HTd:=hide ((N2.out.block T8 hT8).trans HTc.out)
   have HSd:=hide ((N2.out.block S5 (by omega)).trans HSc.out)
   have HI1d:=hide (HI1c.out.next N2.out)
   have HId:=hide (HIc.out.next N2.out)
   go_wp2
   go_loopw [13,12] (fun v13 v12 wx=>∃i:Nat,i≤V∧v13 = .int .i64 (i:Int)∧v12 = .int .i64 (addN (fun v=>(atV k j2 j3 es V (n+1)).vals.getD v 0) i)∧Hid (Below n2.heap.size n2 wx)) (fun v13 _ _=>V-(intOf v13).toNat)
   case atStart=>exact⟨0,by omega,rfl,rfl,hide (Below.refl _ _)⟩
   case round=>
    obtain⟨i,hi,rfl,rfl,hbx⟩:=hrel
    have hsx:n2.heap.size≤wr.heap.size:=hbx.out.size
    have hS5n:S5<n2.heap.size:=by omega
    have hT8n:T8<n2.heap.size:=by omega
    by_cases hi2:i<V
    ·have hI0:(0:Int)≤(i:Int):=by omega
     have hI1:(i:Int)<(V:Int):=by omega
     obtain⟨x,hx⟩:∃y,(atV k j2 j3 es V (n+1)).vals[i]?=some y:=⟨_,List.getElem?_eq_getElem (by rw[(HG.out.st (n+1)).ok.lv];exact hi2)⟩
     obtain⟨y,hy⟩:∃y,(atV k j2 j3 es V n).vals[i]?=some y:=⟨_,List.getElem?_eq_getElem (by rw[(HG.out.st n).ok.lv];exact hi2)⟩
     obtain⟨b1,o1,hA1,l1,x0⟩:=HI1d.out.vals.at1 (i64s_get hx)
     obtain⟨b2,o2,hA2,l2,y0⟩:=HId.out.vals.at1 (i64s_get hy)
     have hxg:(atV k j2 j3 es V (n+1)).vals.getD i 0=x:=by simp[List.getD_eq_getElem?_getD,hx]
     have hyg:(atV k j2 j3 es V n).vals.getD i 0=y:=by simp[List.getD_eq_getElem?_getD,hy]
     have hxb:=(HG.out.st (n+1)).ok.bv x (List.mem_of_getElem? hx)
     have hac:=fun (z:World)=>add_any z (addN (fun v=>(atV k j2 j3 es V (n+1)).vals.getD v 0) i) x (by have:=addN_in (fun v=>(atV k j2 j3 es V (n+1)).vals.getD v 0) i;unfold IN at this;omega) (by have:=addN_in (fun v=>(atV k j2 j3 es V (n+1)).vals.getD v 0) i;unfold IN at this;omega) hxb.1 hxb.2
     rw[show dadd (addN (fun v=>(atV k j2 j3 es V (n+1)).vals.getD v 0) i) x=addN (fun v=>(atV k j2 j3 es V (n+1)).vals.getD v 0) (i+1) by simp only[addN,hxg]] at hac
     have HAC:=hide hac
     have hfall:k≠1→x≤y:=fun hk1=>by have:=HG.out.falls hk1 n i hi2;rw[hxg,hyg] at this;exact this
     have HFA:=hide hfall
     have HA1:=hide hA1
     have HA2:=hide hA2
     have X0:=hide x0
     have Y0:=hide y0
     clear hx hy hxg hyg hxb hac hfall hA1 hA2 x0 y0
     have c0:wr.cell? ⟨w.heap.size,0,none⟩=some (.int .i64 (V:Int)):=cell_of_row _ _ 0 _ _ _ ((hbx.out.block _ (by omega)).trans ((KE.out.block _ hu0).trans HU.out.2.2.1))
     have d0:wr.cell? ⟨w.heap.size+1,0,none⟩=some (.int .u8 k):=cell_of_row _ _ 0 _ _ _ ((hbx.out.block _ (by omega)).trans ((KE.out.block _ hu1).trans HU.out.2.2.2))
     have t1:wr.cell? ⟨T8,1,none⟩=some (.slice Av1 V cv1):=cell_of_row _ _ 1 _ _ _ ((hbx.out.block _ (by omega)).trans HTd.out)
     have s1:wr.cell? ⟨S5,1,none⟩=some (.slice Av V cv):=cell_of_row _ _ 1 _ _ _ ((hbx.out.block _ (by omega)).trans HSd.out)
     have e0:wr.cell? ⟨b1,o1+i,none⟩=some (.int .i64 x):=(hbx.out.cell (p:=⟨b1,o1+i,none⟩) l1).trans X0.out
     have e1:wr.cell? ⟨b2,o2+i,none⟩=some (.int .i64 y):=(hbx.out.cell (p:=⟨b2,o2+i,none⟩) l2).trans Y0.out
     rw[HA1.out] at t1
     rw[HA2.out] at s1
     have z0:w.heap.size<wr.heap.size:=by have:=hbx.out.size;omega
     have z1:w.heap.size+1<wr.heap.size:=by have:=hbx.out.size;omega
     have z2:T8<wr.heap.size:=by have:=hbx.out.size;omega
     have z3:S5<wr.heap.size:=by have:=hbx.out.size;omega
     have z4:b1<wr.heap.size:=by have:=hbx.out.size;omega
     have z5:b2<wr.heap.size:=by have:=hbx.out.size;omega
     by_cases hk1:k=1
     ·have hkb:(k != 1)=false:=by simp[hk1]
      have HK:=hide hk1
      clear hk1
      go_upto_region 17 with fail
      refine wp_region_held_drew (S:=Kept wr) (by kernel_rfl) (Kept.drew wr) (fun hS0=>?_)
      refine tka 0 82 ?_
      refine tka 1 83 ?_
      refine tka 2 84 ?_
      refine tka 3 85 ?_
      refine ska 4 86 ?_
      refine ska 5 87 ?_
      refine ska 6 88 ?_
      refine ska 7 89 ?_
      refine ska 8 90 ?_
      refine ska 9 91 ?_
      refine ska 10 92 ?_
      refine ska 11 93 ?_
      refine ska 12 94 ?_
      refine ska 13 95 ?_
      refine ska 14 96 ?_
      refine tka 15 97 ?_
      refine wpAnyH_done (by kernel_rfl) ?_ _
      clear hS0
      clear c0 d0 t1 s1 e0 e1 z0 z1 z2 z3 z4 z5
      obtain⟨wd,hwd⟩:∃z,wr.drew=z:=⟨_,rfl⟩
      have hbd:Hid (Below n2.heap.size n2 wd):=hide (by rw[←hwd];exact hbx.out.drew)
      rw[hwd]
      clear hwd
      have c0:wd.cell? ⟨w.heap.size,0,none⟩=some (.int .i64 (V:Int)):=cell_of_row _ _ 0 _ _ _ ((hbd.out.block _ (by omega)).trans ((KE.out.block _ hu0).trans HU.out.2.2.1))
      have d0:wd.cell? ⟨w.heap.size+1,0,none⟩=some (.int .u8 k):=cell_of_row _ _ 0 _ _ _ ((hbd.out.block _ (by omega)).trans ((KE.out.block _ hu1).trans HU.out.2.2.2))
      have t1:wd.cell? ⟨T8,1,none⟩=some (.slice Av1 V cv1):=cell_of_row _ _ 1 _ _ _ ((hbd.out.block _ (by omega)).trans HTd.out)
      have s1:wd.cell? ⟨S5,1,none⟩=some (.slice Av V cv):=cell_of_row _ _ 1 _ _ _ ((hbd.out.block _ (by omega)).trans HSd.out)
      have e0:wd.cell? ⟨b1,o1+i,none⟩=some (.int .i64 x):=(hbd.out.cell (p:=⟨b1,o1+i,none⟩) l1).trans X0.out
      have e1:wd.cell? ⟨b2,o2+i,none⟩=some (.int .i64 y):=(hbd.out.cell (p:=⟨b2,o2+i,none⟩) l2).trans Y0.out
      rw[HA1.out] at t1
      rw[HA2.out] at s1
      have z0:w.heap.size<wd.heap.size:=by have:=hbd.out.size;omega
      have z1:w.heap.size+1<wd.heap.size:=by have:=hbd.out.size;omega
      have z2:T8<wd.heap.size:=by have:=hbd.out.size;omega
      have z3:S5<wd.heap.size:=by have:=hbd.out.size;omega
      have z4:b1<wd.heap.size:=by have:=hbd.out.size;omega
      have z5:b2<wd.heap.size:=by have:=hbd.out.size;omega
      go_wp2_with fail
      refine (HAC.out wd).mono ?_
      rintro e w5 ⟨rfl,hw5⟩
      have HB5:Hid (Below n2.heap.size n2 w5):=hide (by first | (subst hw5;exact hbd.out) | exact hbd.out.trans (hw5.mono hbd.out.size))
      clear hw5
      clear c0 d0 t1 s1 e0 e1 z0 z1 z2 z3 z4 z5
      go_wp2
      go_roundw
      case rel=>exact⟨i+1,by omega,by go_num,rfl,HB5⟩
      case measure=>simp[intOf];omega
     have hkb:(k != 1)=true:=by simpa using hk1
     have hxy:¬(y<x):=by have:=HFA.out hk1;omega
     clear hk1
     go_upto_region 17 with fail
     refine wp_region_held_drew (S:=Kept wr) (by kernel_rfl) (Kept.drew wr) (fun hS0=>?_)
     refine tka 0 82 ?_
     refine tka 1 83 ?_
     refine tka 2 84 ?_
     refine tka 3 85 ?_
     refine tka 4 86 ?_
     refine tka 5 87 ?_
     refine tka 6 88 ?_
     refine tka 7 89 ?_
     refine tka 8 90 ?_
     refine tka 9 91 ?_
     refine tka 10 92 ?_
     refine tka 11 93 ?_
     refine tka 12 94 ?_
     refine tka 13 95 ?_
     refine tka 14 96 ?_
     refine tka 15 97 ?_
     refine wpAnyH_done (by kernel_rfl) ?_ _
     clear hS0
     clear c0 d0 t1 s1 e0 e1 z0 z1 z2 z3 z4 z5
     obtain⟨wd,hwd⟩:∃z,wr.drew=z:=⟨_,rfl⟩
     have hbd:Hid (Below n2.heap.size n2 wd):=hide (by rw[←hwd];exact hbx.out.drew)
     rw[hwd]
     clear hwd
     have c0:wd.cell? ⟨w.heap.size,0,none⟩=some (.int .i64 (V:Int)):=cell_of_row _ _ 0 _ _ _ ((hbd.out.block _ (by omega)).trans ((KE.out.block _ hu0).trans HU.out.2.2.1))
     have d0:wd.cell? ⟨w.heap.size+1,0,none⟩=some (.int .u8 k):=cell_of_row _ _ 0 _ _ _ ((hbd.out.block _ (by omega)).trans ((KE.out.block _ hu1).trans HU.out.2.2.2))
     have t1:wd.cell? ⟨T8,1,none⟩=some (.slice Av1 V cv1):=cell_of_row _ _ 1 _ _ _ ((hbd.out.block _ (by omega)).trans HTd.out)
     have s1:wd.cell? ⟨S5,1,none⟩=some (.slice Av V cv):=cell_of_row _ _ 1 _ _ _ ((hbd.out.block _ (by omega)).trans HSd.out)
     have e0:wd.cell? ⟨b1,o1+i,none⟩=some (.int .i64 x):=(hbd.out.cell (p:=⟨b1,o1+i,none⟩) l1).trans X0.out
     have e1:wd.cell? ⟨b2,o2+i,none⟩=some (.int .i64 y):=(hbd.out.cell (p:=⟨b2,o2+i,none⟩) l2).trans Y0.out
     rw[HA1.out] at t1
     rw[HA2.out] at s1
     have z0:w.heap.size<wd.heap.size:=by have:=hbd.out.size;omega
     have z1:w.heap.size+1<wd.heap.size:=by have:=hbd.out.size;omega
     have z2:T8<wd.heap.size:=by have:=hbd.out.size;omega
     have z3:S5<wd.heap.size:=by have:=hbd.out.size;omega
     have z4:b1<wd.heap.size:=by have:=hbd.out.size;omega
     have z5:b2<wd.heap.size:=by have:=hbd.out.size;omega
     go_wp2_with fail
     refine (HAC.out wd).mono ?_
     rintro e w5 ⟨rfl,hw5⟩
     have HB5:Hid (Below n2.heap.size n2 w5):=hide (by first | (subst hw5;exact hbd.out) | exact hbd.out.trans (hw5.mono hbd.out.size))
     clear hw5
     clear c0 d0 t1 s1 e0 e1 z0 z1 z2 z3 z4 z5
     go_wp2
     go_roundw
     case rel=>exact⟨i+1,by omega,by go_num,rfl,HB5⟩
     case measure=>simp[intOf];omega
    have hiV:i=V:=by omega
    have hge:¬((i:Int)<(V:Int)):=by omega
    have hsumH:=hide (HG.out.sum)
    by_cases hk1:k=1
    ·have hkb:(k == 1)=true:=by simp[hk1]
     have hkn:(k != 1)=false:=by simp[hk1]
     have hal:¬(4294967296<addN (fun v=>(atV k j2 j3 es V (n+1)).vals.getD v 0) i):=by rw[hiV];have:=HG.out.sum hk1 (n+1);omega
     clear hk1 hiV
     have c0:wr.cell? ⟨w.heap.size,0,none⟩=some (.int .i64 (V:Int)):=cell_of_row _ _ 0 _ _ _ ((hbx.out.block _ (by omega)).trans ((KE.out.block _ hu0).trans HU.out.2.2.1))
     have d0:wr.cell? ⟨w.heap.size+1,0,none⟩=some (.int .u8 k):=cell_of_row _ _ 0 _ _ _ ((hbx.out.block _ (by omega)).trans ((KE.out.block _ hu1).trans HU.out.2.2.2))
     obtain⟨t0,t1,t2,t3,t4,t5⟩:=zr6 ((hbx.out.block _ (by omega)).trans HTd.out)
     obtain⟨s0,s1,s2,s3,s4,s5⟩:=zr6 ((hbx.out.block _ (by omega)).trans HSd.out)
     have zq:=zf (((hbx.out.block _ (by omega)).trans HSd.out));have f0:=zq 0;have f1:=zq 1;have f2:=zq 2;have f3:=zq 3;have f4:=zq 4;have f5:=zq 5;clear zq
     have z0:w.heap.size<wr.heap.size:=by have:=hbx.out.size;omega
     have z1:w.heap.size+1<wr.heap.size:=by have:=hbx.out.size;omega
     have z2:T8<wr.heap.size:=by have:=hbx.out.size;omega
     have z3:S5<wr.heap.size:=by have:=hbx.out.size;omega
     have HSZ:=hide ((hbx.out.block _ (by omega)).trans HSd.out)
     have HIZ:=hide (HI1d.out.next hbx.out)
     have KZ:=hide (KE.out.trans (hbx.out.mono KE.out.size))
     go_wp2
     obtain⟨y9,hy9⟩:∃q,(((((wr.setCell ⟨S5,0,none⟩ (.int .i64 (atV k j2 j3 es V (n+1)).st)).setCell ⟨S5,1,none⟩ (.slice Av1 V cv1)).setCell ⟨S5,2,none⟩ (.slice Ac1 V cc1)).setCell ⟨S5,3,none⟩ (.slice Ai1 V ci1)).setCell ⟨S5,4,none⟩ (.int .i64 (atV k j2 j3 es V (n+1)).sm)).setCell ⟨S5,5,none⟩ (.int .i64 (atV k j2 j3 es V (n+1)).mo)=q:=⟨_,rfl⟩
     have hF:=far6 wr S5 S5 (.int .i64 (atV k j2 j3 es V (n+1)).st) (.slice Av1 V cv1) (.slice Ac1 V cc1) (.slice Ai1 V ci1) (.int .i64 (atV k j2 j3 es V (n+1)).sm) (.int .i64 (atV k j2 j3 es V (n+1)).mo) HSZ.out
     rw[hy9] at hF ⊢
     obtain⟨F4,hY⟩:=hF
     have HF4:=hide F4
     have HY4:=hide hY
     clear hy9 F4 hY
     have HI9:Hid (VIn y9 (atV k j2 j3 es V (n+1)) Av1 Ac1 Ai1):=hide ⟨HF4.out.rd (HIZ.out).vals HN1.out.1 (by omega) (by omega),HF4.out.rd (HIZ.out).chg HN1.out.2.1 (by omega) (by omega),HF4.out.rd (HIZ.out).inb HN1.out.2.2 (by omega) (by omega)⟩
     have HB9:=hide (KZ.out.trans (HF4.out.below (by omega) (by omega)))
     go_roundw
     case rel=>exact⟨n+1,Av1,Ac1,Ai1,cv1,cc1,ci1,by omega,by go_num,HY4,HI9,HB9⟩
     case measure=>simp[intOf];omega
    have hkb:(k == 1)=false:=by simpa using hk1
    have hkn:(k != 1)=true:=by simpa using hk1
    by_cases hn0:n=0
    ·have hn0':¬((n:Int) > 0):=by omega
     have hn0'':¬(0<(n:Int)):=by omega
     clear hk1 hiV hn0
     have c0:wr.cell? ⟨w.heap.size,0,none⟩=some (.int .i64 (V:Int)):=cell_of_row _ _ 0 _ _ _ ((hbx.out.block _ (by omega)).trans ((KE.out.block _ hu0).trans HU.out.2.2.1))
     have d0:wr.cell? ⟨w.heap.size+1,0,none⟩=some (.int .u8 k):=cell_of_row _ _ 0 _ _ _ ((hbx.out.block _ (by omega)).trans ((KE.out.block _ hu1).trans HU.out.2.2.2))
     obtain⟨t0,t1,t2,t3,t4,t5⟩:=zr6 ((hbx.out.block _ (by omega)).trans HTd.out)
     obtain⟨s0,s1,s2,s3,s4,s5⟩:=zr6 ((hbx.out.block _ (by omega)).trans HSd.out)
     have zq:=zf (((hbx.out.block _ (by omega)).trans HSd.out));have f0:=zq 0;have f1:=zq 1;have f2:=zq 2;have f3:=zq 3;have f4:=zq 4;have f5:=zq 5;clear zq
     have z0:w.heap.size<wr.heap.size:=by have:=hbx.out.size;omega
     have z1:w.heap.size+1<wr.heap.size:=by have:=hbx.out.size;omega
     have z2:T8<wr.heap.size:=by have:=hbx.out.size;omega
     have z3:S5<wr.heap.size:=by have:=hbx.out.size;omega
     have HSZ:=hide ((hbx.out.block _ (by omega)).trans HSd.out)
     have HIZ:=hide (HI1d.out.next hbx.out)
     have KZ:=hide (KE.out.trans (hbx.out.mono KE.out.size))
     go_wp2
     obtain⟨y9,hy9⟩:∃q,(((((wr.setCell ⟨S5,0,none⟩ (.int .i64 (atV k j2 j3 es V (n+1)).st)).setCell ⟨S5,1,none⟩ (.slice Av1 V cv1)).setCell ⟨S5,2,none⟩ (.slice Ac1 V cc1)).setCell ⟨S5,3,none⟩ (.slice Ai1 V ci1)).setCell ⟨S5,4,none⟩ (.int .i64 (atV k j2 j3 es V (n+1)).sm)).setCell ⟨S5,5,none⟩ (.int .i64 (atV k j2 j3 es V (n+1)).mo)=q:=⟨_,rfl⟩
     have hF:=far6 wr S5 S5 (.int .i64 (atV k j2 j3 es V (n+1)).st) (.slice Av1 V cv1) (.slice Ac1 V cc1) (.slice Ai1 V ci1) (.int .i64 (atV k j2 j3 es V (n+1)).sm) (.int .i64 (atV k j2 j3 es V (n+1)).mo) HSZ.out
     rw[hy9] at hF ⊢
     obtain⟨F4,hY⟩:=hF
     have HF4:=hide F4
     have HY4:=hide hY
     clear hy9 F4 hY
     have HI9:Hid (VIn y9 (atV k j2 j3 es V (n+1)) Av1 Ac1 Ai1):=hide ⟨HF4.out.rd (HIZ.out).vals HN1.out.1 (by omega) (by omega),HF4.out.rd (HIZ.out).chg HN1.out.2.1 (by omega) (by omega),HF4.out.rd (HIZ.out).inb HN1.out.2.2 (by omega) (by omega)⟩
     have HB9:=hide (KZ.out.trans (HF4.out.below (by omega) (by omega)))
     go_roundw
     case rel=>exact⟨n+1,Av1,Ac1,Ai1,cv1,cc1,ci1,by omega,by go_num,HY4,HI9,HB9⟩
     case measure=>simp[intOf];omega
    by_cases hm:(atV k j2 j3 es V n).mo=0
    ·have hdn:=HG.out.done hk1 n (by omega) hm
     have hmb:((atV k j2 j3 es V n).mo == 0)=true:=by simpa using hm
     have hmc:((atV k j2 j3 es V (n+1)).mo != 0)=false:=by simpa using hdn.1
     have hn0'':(0<(n:Int)):=by omega
     have HDV:=hide hdn.2
     clear hk1 hiV hm hdn
     have c0:wr.cell? ⟨w.heap.size,0,none⟩=some (.int .i64 (V:Int)):=cell_of_row _ _ 0 _ _ _ ((hbx.out.block _ (by omega)).trans ((KE.out.block _ hu0).trans HU.out.2.2.1))
     have d0:wr.cell? ⟨w.heap.size+1,0,none⟩=some (.int .u8 k):=cell_of_row _ _ 0 _ _ _ ((hbx.out.block _ (by omega)).trans ((KE.out.block _ hu1).trans HU.out.2.2.2))
     obtain⟨t0,t1,t2,t3,t4,t5⟩:=zr6 ((hbx.out.block _ (by omega)).trans HTd.out)
     obtain⟨s0,s1,s2,s3,s4,s5⟩:=zr6 ((hbx.out.block _ (by omega)).trans HSd.out)
     have zq:=zf (((hbx.out.block _ (by omega)).trans HSd.out));have f0:=zq 0;have f1:=zq 1;have f2:=zq 2;have f3:=zq 3;have f4:=zq 4;have f5:=zq 5;clear zq
     have z0:w.heap.size<wr.heap.size:=by have:=hbx.out.size;omega
     have z1:w.heap.size+1<wr.heap.size:=by have:=hbx.out.size;omega
     have z2:T8<wr.heap.size:=by have:=hbx.out.size;omega
     have z3:S5<wr.heap.size:=by have:=hbx.out.size;omega
     have HSZ:=hide ((hbx.out.block _ (by omega)).trans HSd.out)
     have HIZ:=hide (HI1d.out.next hbx.out)
     have KZ:=hide (KE.out.trans (hbx.out.mono KE.out.size))
     have hc3:=same64_any wr Av Av1 (atV k j2 j3 es V n).vals (atV k j2 j3 es V (n+1)).vals V V cv cv1 (HG.out.st n).ok.lv (HG.out.st (n+1)).ok.lv (by omega) (HId.out.next hbx.out).vals (HI1d.out.next hbx.out).vals
     rw[HDV.out,show eqL (atV k j2 j3 es V n).vals (atV k j2 j3 es V n).vals=true by simp[eqL]] at hc3
     have HC3:=hide hc3
     clear hc3
     go_wp2_with fail
     refine HC3.out.mono ?_
     rintro e w6 ⟨rfl,hw6⟩
     have hb6:=hide (hbx.out.trans (hw6.mono hbx.out.size))
     clear hw6 c0 d0 t0 s0 f0 t1 s1 f1 t2 s2 f2 t3 s3 f3 t4 s4 f4 t5 s5 f5 z0 z1 z2 z3 HSZ HIZ KZ
     have c0:w6.cell? ⟨w.heap.size,0,none⟩=some (.int .i64 (V:Int)):=cell_of_row _ _ 0 _ _ _ ((hb6.out.block _ (by omega)).trans ((KE.out.block _ hu0).trans HU.out.2.2.1))
     have d0:w6.cell? ⟨w.heap.size+1,0,none⟩=some (.int .u8 k):=cell_of_row _ _ 0 _ _ _ ((hb6.out.block _ (by omega)).trans ((KE.out.block _ hu1).trans HU.out.2.2.2))
     obtain⟨t0,t1,t2,t3,t4,t5⟩:=zr6 ((hb6.out.block _ (by omega)).trans HTd.out)
     obtain⟨s0,s1,s2,s3,s4,s5⟩:=zr6 ((hb6.out.block _ (by omega)).trans HSd.out)
     have zq:=zf (((hb6.out.block _ (by omega)).trans HSd.out));have f0:=zq 0;have f1:=zq 1;have f2:=zq 2;have f3:=zq 3;have f4:=zq 4;have f5:=zq 5;clear zq
     have z0:w.heap.size<w6.heap.size:=by have:=hb6.out.size;omega
     have z1:w.heap.size+1<w6.heap.size:=by have:=hb6.out.size;omega
     have z2:T8<w6.heap.size:=by have:=hb6.out.size;omega
     have z3:S5<w6.heap.size:=by have:=hb6.out.size;omega
     have HSZ:=hide ((hb6.out.block _ (by omega)).trans HSd.out)
     have HIZ:=hide (HI1d.out.next hb6.out)
     have KZ:=hide (KE.out.trans (hb6.out.mono KE.out.size))
     go_wp2
     obtain⟨y9,hy9⟩:∃q,(((((w6.setCell ⟨S5,0,none⟩ (.int .i64 (atV k j2 j3 es V (n+1)).st)).setCell ⟨S5,1,none⟩ (.slice Av1 V cv1)).setCell ⟨S5,2,none⟩ (.slice Ac1 V cc1)).setCell ⟨S5,3,none⟩ (.slice Ai1 V ci1)).setCell ⟨S5,4,none⟩ (.int .i64 (atV k j2 j3 es V (n+1)).sm)).setCell ⟨S5,5,none⟩ (.int .i64 (atV k j2 j3 es V (n+1)).mo)=q:=⟨_,rfl⟩
     have hF:=far6 w6 S5 S5 (.int .i64 (atV k j2 j3 es V (n+1)).st) (.slice Av1 V cv1) (.slice Ac1 V cc1) (.slice Ai1 V ci1) (.int .i64 (atV k j2 j3 es V (n+1)).sm) (.int .i64 (atV k j2 j3 es V (n+1)).mo) HSZ.out
     rw[hy9] at hF ⊢
     obtain⟨F4,hY⟩:=hF
     have HF4:=hide F4
     have HY4:=hide hY
     clear hy9 F4 hY
     have HI9:Hid (VIn y9 (atV k j2 j3 es V (n+1)) Av1 Ac1 Ai1):=hide ⟨HF4.out.rd (HIZ.out).vals HN1.out.1 (by omega) (by omega),HF4.out.rd (HIZ.out).chg HN1.out.2.1 (by omega) (by omega),HF4.out.rd (HIZ.out).inb HN1.out.2.2 (by omega) (by omega)⟩
     have HB9:=hide (KZ.out.trans (HF4.out.below (by omega) (by omega)))
     go_roundw
     case rel=>exact⟨n+1,Av1,Ac1,Ai1,cv1,cc1,ci1,by omega,by go_num,HY4,HI9,HB9⟩
     case measure=>simp[intOf];omega
    have hmb:((atV k j2 j3 es V n).mo == 0)=false:=by simpa using hm
    have hn0'':(0<(n:Int)):=by omega
    clear hk1 hiV hm
    have c0:wr.cell? ⟨w.heap.size,0,none⟩=some (.int .i64 (V:Int)):=cell_of_row _ _ 0 _ _ _ ((hbx.out.block _ (by omega)).trans ((KE.out.block _ hu0).trans HU.out.2.2.1))
    have d0:wr.cell? ⟨w.heap.size+1,0,none⟩=some (.int .u8 k):=cell_of_row _ _ 0 _ _ _ ((hbx.out.block _ (by omega)).trans ((KE.out.block _ hu1).trans HU.out.2.2.2))
    obtain⟨t0,t1,t2,t3,t4,t5⟩:=zr6 ((hbx.out.block _ (by omega)).trans HTd.out)
    obtain⟨s0,s1,s2,s3,s4,s5⟩:=zr6 ((hbx.out.block _ (by omega)).trans HSd.out)
    have zq:=zf (((hbx.out.block _ (by omega)).trans HSd.out));have f0:=zq 0;have f1:=zq 1;have f2:=zq 2;have f3:=zq 3;have f4:=zq 4;have f5:=zq 5;clear zq
    have z0:w.heap.size<wr.heap.size:=by have:=hbx.out.size;omega
    have z1:w.heap.size+1<wr.heap.size:=by have:=hbx.out.size;omega
    have z2:T8<wr.heap.size:=by have:=hbx.out.size;omega
    have z3:S5<wr.heap.size:=by have:=hbx.out.size;omega
    have HSZ:=hide ((hbx.out.block _ (by omega)).trans HSd.out)
    have HIZ:=hide (HI1d.out.next hbx.out)
    have KZ:=hide (KE.out.trans (hbx.out.mono KE.out.size))
    go_wp2
    obtain⟨y9,hy9⟩:∃q,(((((wr.setCell ⟨S5,0,none⟩ (.int .i64 (atV k j2 j3 es V (n+1)).st)).setCell ⟨S5,1,none⟩ (.slice Av1 V cv1)).setCell ⟨S5,2,none⟩ (.slice Ac1 V cc1)).setCell ⟨S5,3,none⟩ (.slice Ai1 V ci1)).setCell ⟨S5,4,none⟩ (.int .i64 (atV k j2 j3 es V (n+1)).sm)).setCell ⟨S5,5,none⟩ (.int .i64 (atV k j2 j3 es V (n+1)).mo)=q:=⟨_,rfl⟩
    have hF:=far6 wr S5 S5 (.int .i64 (atV k j2 j3 es V (n+1)).st) (.slice Av1 V cv1) (.slice Ac1 V cc1) (.slice Ai1 V ci1) (.int .i64 (atV k j2 j3 es V (n+1)).sm) (.int .i64 (atV k j2 j3 es V (n+1)).mo) HSZ.out
    rw[hy9] at hF ⊢
    obtain⟨F4,hY⟩:=hF
    have HF4:=hide F4
    have HY4:=hide hY
    clear hy9 F4 hY
    have HI9:Hid (VIn y9 (atV k j2 j3 es V (n+1)) Av1 Ac1 Ai1):=hide ⟨HF4.out.rd (HIZ.out).vals HN1.out.1 (by omega) (by omega),HF4.out.rd (HIZ.out).chg HN1.out.2.1 (by omega) (by omega),HF4.out.rd (HIZ.out).inb HN1.out.2.2 (by omega) (by omega)⟩
    have HB9:=hide (KZ.out.trans (HF4.out.below (by omega) (by omega)))
    go_roundw
    case rel=>exact⟨n+1,Av1,Ac1,Ai1,cv1,cc1,ci1,by omega,by go_num,HY4,HI9,HB9⟩
    case measure=>simp[intOf];omega
  obtain rfl:n=14:=by omega
  obtain⟨N,hNe⟩:∃q,runN k j1 j2 j3 j4 es V=q:=⟨_,rfl⟩
  rw[hNe] at HRU HR
  clear hNe
  obtain⟨c0,c1⟩:=zr2 ((HBr.out.block _ hu0).trans HU.out.2.2.1)
  obtain⟨d0,d1,d2,d3,d4⟩:=zr5 ((HBr.out.block _ hu1).trans HU.out.2.2.2)
  have hz0:w.heap.size<wr.heap.size:=by have:=HBr.out.size;omega
  have hz1:w.heap.size+1<wr.heap.size:=by have:=HBr.out.size;omega
  go_wp2_with fail
  refine (HRU.out wr HBr.out).mono ?_
  intro e y hpost
  obtain⟨Av3,Ac3,Ai3,cv3,cc3,ci3,he,hi3,hb,hnw3⟩:=hpost.good
  have HN3:=hide hnw3
  clear hnw3
  subst he
  have KY:=hide (HBr.out.trans (hb.mono HBr.out.size))
  have hby:=hide hb
  have syy:wr.heap.size≤y.heap.size:=hb.size
  clear c0 c1 d0 d1 d2 d3 d4 hz0 hz1
  clear hpost hb
  go_upto_region 26 with fail
  obtain⟨a3,ha⟩:∃x,y.alloc (.cells #[.int .i64 (atV k j2 j3 es V N).st,.slice Av3 V cv3,.slice Ac3 V cc3,.slice Ai3 V ci3,.int .i64 (atV k j2 j3 es V N).sm,.int .i64 (atV k j2 j3 es V N).mo] 33)=x:=⟨_,rfl⟩
  have hAl:Below y.heap.size y a3:=by rw[←ha];exact (Below.refl _ _).alloc (Nat.le_refl _) _
  have hSx:a3.heap[y.heap.size]?=some (.cells #[.int .i64 (atV k j2 j3 es V N).st,.slice Av3 V cv3,.slice Ac3 V cc3,.slice Ai3 V ci3,.int .i64 (atV k j2 j3 es V N).sm,.int .i64 (atV k j2 j3 es V N).mo] 33):=by rw[←ha];exact heap_alloc_last _ _
  have sa3:y.heap.size<a3.heap.size:=by rw[←ha];simp
  rw[ha]
  have HI3:=hide (hi3.next hAl)
  have KR:=hide (KY.out.trans (hAl.mono KY.out.size))
  have HBA3:=hide (hby.out.trans (hAl.mono syy))
  obtain⟨T14,hT⟩:∃x,y.heap.size=x:=⟨_,rfl⟩
  rw[hT] at hSx sa3 syy ⊢
  have HS3:=hide hSx
  have sT3:=syy
  clear ha hAl hi3 KY syy hT hSx hby
  obtain⟨y0,y1,y2,y3,y4,y5⟩:=zr6 HS3.out
  obtain⟨c0,c1⟩:=zr2 ((KR.out.block _ hu0).trans HU.out.2.2.1)
  obtain⟨d0,d1,d2,d3,d4⟩:=zr5 ((KR.out.block _ hu1).trans HU.out.2.2.2)
  have hz0:w.heap.size<a3.heap.size:=by have:=KR.out.size;omega
  have hz1:w.heap.size+1<a3.heap.size:=by have:=KR.out.size;omega
  have hT14:T14<a3.heap.size:=by omega
  have hdc:=done_any a3 k j1 j2 j3 j4 (atV k j2 j3 es V N).st (atV k j2 j3 es V N).mo
  rw[HR.out.1] at hdc
  have HDC:=hide hdc
  clear hdc
  go_wp2_with fail
  refine HDC.out.mono ?_
  rintro e n3 ⟨rfl,hn3⟩
  have N3:=hide hn3
  have sn3:a3.heap.size≤n3.heap.size:=hn3.size
  clear hn3 y0 y1 y2 y3 y4 y5
  clear c0 c1 d0 d1 d2 d3 d4 hz0 hz1
  have KS:=hide (KR.out.trans (N3.out.mono KR.out.size))
  have HT3:=hide ((N3.out.block T14 hT14).trans HS3.out)
  obtain⟨y0,y1,y2,y3,y4,y5⟩:=zr6 HT3.out
  obtain⟨c0,c1⟩:=zr2 ((KS.out.block _ hu0).trans HU.out.2.2.1)
  obtain⟨d0,d1,d2,d3,d4⟩:=zr5 ((KS.out.block _ hu1).trans HU.out.2.2.2)
  have hz0:w.heap.size<n3.heap.size:=by have:=KS.out.size;omega
  have hz1:w.heap.size+1<n3.heap.size:=by have:=KS.out.size;omega
  have hT15:T14<n3.heap.size:=by omega
  have hstN:(atV k j2 j3 es V N).st=(N:Int):=atV_st _ _ _ _ _ _
  have hNle:=HR.out.2.1
  by_cases hs0:(atV k j2 j3 es V N).st=0
  ·have hsb:((atV k j2 j3 es V N).st == 0)=true:=by simpa using hs0
   clear hs0 hstN
   go_wp2_with fail
   refine (works_any _).mono ?_
   rintro e zz ⟨rfl,hzz⟩
   have HZ:=hide (HU.out.1.trans ((KS.out.trans (hzz.mono KS.out.size)).mono (by omega)))
   clear hzz
   go_wp2
   go_ret
   exact⟨rfl,HZ.out⟩
  have hsb:((atV k j2 j3 es V N).st == 0)=false:=by simpa using hs0
  have hsl:(atV k j2 j3 es V N).st≤j1:=by rw[hstN];omega
  clear hs0 hstN
  go_wp2_with fail
  refine (works_any _).mono ?_
  rintro e zz ⟨rfl,hzz⟩
  have HZ:=hide (HU.out.1.trans ((KS.out.trans (hzz.mono KS.out.size)).mono (by omega)))
  clear hzz
  go_wp2
  go_ret
  exact⟨rfl,HZ.out⟩
end Go.Proofs.YtpgbjabifhjogaaGreat

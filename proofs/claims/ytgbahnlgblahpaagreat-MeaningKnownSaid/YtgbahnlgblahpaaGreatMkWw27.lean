/- Lemmas: Sqp, Qgl. -/
import Derived.Test.YtgbahnlgblahpaaGreatProg
import Derived.Deep.Strs
import Derived.Test.YtgbahnlgblahpaaGreatMkWw25
import Derived.Test.YtgbahnlgblahpaaGreatMkWw26
set_option linter.unusedVariables false
set_option linter.unusedSimpArgs false
set_option maxRecDepth 100000
set_option maxHeartbeats 16000000
namespace Go.Proofs.YtgbahnlgblahpaaGreat
open Go.RowKit
theorem boxF_bd {k:Int}:∀{l:List Ms},msB l→∀v x,boxF k l v=some x→i64V x:=by
 suffices h:∀(l:List Ms) (f:Int→Option Int),msB l→(∀v x,f v=some x→i64V x)→∀v x,l.foldl (addB k) f v=some x→i64V x from fun {l} hl=>h l _ hl (fun v x hv=>by cases hv)
 intro l
 induction l with
 | nil=>intro f _ hf v x hv;exact hf v x hv
 | cons m l ih=>
  intro f hl hf
  refine ih _ (fun y hy=>hl y (List.mem_cons_of_mem _ hy)) (fun v x hv=>?_)
  have hm:=(hl m (List.mem_cons_self ..)).2
  unfold addB bxPut at hv
  split at hv
  ·injection hv with hv
   subst hv
   cases hq:f m.1 with
   | some y=>exact comb_bd (hf _ _ hq) hm
   | none=>exact hm
  exact hf v x hv
theorem mails_bd {k:Int} {l:List Ms} {own:List Int} (h:msB l):∀m∈mails k l own,i64V m.2:=fun m hm=>by
 obtain⟨v,_,rfl⟩:=List.mem_map.1 hm
 cases hq:boxF k l v with
 | none=>simp[mlOf,i64V]
 | some x=>exact boxF_bd h v x hq
theorem takeK_bd (V d g s:Int):i64V (takeK V d g s):=by
 unfold takeK i64V
 split
 ·omega
 rename_i h
 split
 ·have h1:=mulF_b d.toNat (dadd g (s.tdiv V)).toNat
  have h2:0≤(4294967296-d).tdiv V:=Int.tdiv_nonneg (by omega) (by omega)
  have h3:(4294967296-d).tdiv V≤4294967296-d:=by
   rw[Int.tdiv_eq_ediv_of_nonneg (by omega)]
   exact Int.ediv_le_self _ (by omega)
  omega
 omega
theorem compK_bd {k V v:Int} {has:Bool} {x su d:Int} (hv:i64V v) (hx:i64V x):i64V (compK k V v has x su d).1:=by
 unfold compK
 split
 ·exact takeK_bd _ _ _ _
 split
 ·unfold ltakeOf
  split
  ·exact hx
  exact hv
 split
 ·unfold takeOf
  split
  ·unfold i64V at *
   dsimp only
   omega
  exact hv
 simp[i64V]
theorem startA_bd {k j2 V:Int} {v:Nat} (hv:v≤1000):i64V (startA k j2 V (v:Int)).1:=by
 unfold startA
 split
 ·exact evenF_bd (by simp[i64V])
 split
 ·unfold i64V
  dsimp only
  omega
 split
 ·unfold startOf i64V
  dsimp only
  split <;> omega
 simp[i64V]
def tellV (k:Int) (es:List Ed) (was vals:List Int) (chs:List Bool) (V:Nat) (st:Int):SV:=⟨st,vals,chs,toldM k es vals chs V,(totV k es was vals chs V).1,(totV k es was vals chs V).2⟩
def startVals (k j2:Int) (V n:Nat):List Int:=(List.range n).map fun (v:Nat)=>(startA k j2 V (v:Int)).1
def startChs (k j2:Int) (V n:Nat):List Bool:=(List.range n).map fun (v:Nat)=>(startA k j2 V (v:Int)).2
def startV (k j2:Int) (es:List Ed) (V:Nat):SV:={ tellV k es (startVals k j2 V V) (startVals k j2 V V) (startChs k j2 V V) V 0 with mo:=0 }
def compV (k j3:Int) (V:Nat) (s:SV) (v:Nat):Int×Bool:=compK k V (s.vals.getD v 0) (s.inb.getD v (false,0)).1 (s.inb.getD v (false,0)).2 s.sm j3
def nextVals (k j3:Int) (V:Nat) (s:SV) (n:Nat):List Int:=(List.range n).map fun v=>(compV k j3 V s v).1
def nextChs (k j3:Int) (V:Nat) (s:SV) (n:Nat):List Bool:=(List.range n).map fun v=>(compV k j3 V s v).2
def nextV (k j3:Int) (es:List Ed) (V:Nat) (s:SV):SV:=tellV k es s.vals (nextVals k j3 V s V) (nextChs k j3 V s V) V (s.st+1)
structure OkS (V:Nat) (s:SV):Prop where
 lv:s.vals.length=V
 lc:s.chg.length=V
 li:s.inb.length=V
 bv:∀x∈s.vals,i64V x
 bi:∀m∈s.inb,i64V m.2
 bs:i64V s.sm
theorem tellV_ok {k:Int} {es:List Ed} {was vals:List Int} {chs:List Bool} {V:Nat} {st:Int} (he:edsB es) (h1:vals.length=V) (h2:chs.length=V) (hv:∀x∈vals,i64V x):OkS V (tellV k es was vals chs V st):=
 ⟨h1,h2,by simp[tellV,toldM,mails,ownL],hv,mails_bd (rowsV_bd he hv),(totV_bd k es was vals chs hv V).1⟩
theorem startVals_bd {k j2:Int} {V n:Nat} (h:n≤1000):∀x∈startVals k j2 V n,i64V x:=fun x hx=>by
 obtain⟨v,hv,rfl⟩:=List.mem_map.1 hx
 have:=List.mem_range.1 hv
 exact startA_bd (by omega)
theorem startV_ok {k j2:Int} {es:List Ed} {V:Nat} (hV:V≤1000) (he:edsB es):OkS V (startV k j2 es V):=by
 have h:=tellV_ok (k:=k) (was:=startVals k j2 V V) (st:=0) he (by simp[startVals]:(startVals k j2 V V).length=V) (by simp[startChs]:(startChs k j2 V V).length=V) (startVals_bd hV)
 exact⟨h.lv,h.lc,h.li,h.bv,h.bi,h.bs⟩
theorem getD_mail_bd {l:List Ml} (h:∀m∈l,i64V m.2) (v:Nat):i64V (l.getD v (false,0)).2:=by
 by_cases hv:v<l.length
 ·rw[List.getD_eq_getElem?_getD,List.getElem?_eq_getElem hv];exact h _ (List.getElem_mem hv)
 rw[List.getD_eq_getElem?_getD,List.getElem?_eq_none (by omega)];simp[i64V]
theorem nextVals_bd {k j3:Int} {V n:Nat} {s:SV} (h:OkS V s):∀x∈nextVals k j3 V s n,i64V x:=fun x hx=>by
 obtain⟨v,_,rfl⟩:=List.mem_map.1 hx
 exact compK_bd (getD_bd h.bv v) (getD_mail_bd h.bi v)
theorem nextV_ok {k j3:Int} {es:List Ed} {V:Nat} {s:SV} (he:edsB es) (h:OkS V s):OkS V (nextV k j3 es V s):=
 tellV_ok he (by simp[nextVals]) (by simp[nextChs]) (nextVals_bd h)
theorem nextV_st (k j3:Int) (es:List Ed) (V:Nat) (s:SV):(nextV k j3 es V s).st=s.st+1:=rfl
def atV (k j2 j3:Int) (es:List Ed) (V:Nat):Nat→SV
 | 0=>startV k j2 es V
 | n+1=>nextV k j3 es V (atV k j2 j3 es V n)
theorem atV_st (k j2 j3:Int) (es:List Ed) (V:Nat):∀n,(atV k j2 j3 es V n).st=(n:Int)
 | 0=>rfl
 | n+1=>by rw[atV,nextV_st,atV_st k j2 j3 es V n];rfl
theorem atV_ok {k j2 j3:Int} {es:List Ed} {V:Nat} (hV:V≤1000) (he:edsB es):∀n,OkS V (atV k j2 j3 es V n)
 | 0=>startV_ok hV he
 | n+1=>nextV_ok he (atV_ok hV he n)
theorem nextVals_get (k j3:Int) (V:Nat) (s:SV) {n v:Nat} (h:v<n):(nextVals k j3 V s n).getD v 0=(compV k j3 V s v).1:=by
 rw[List.getD_eq_getElem?_getD]
 simp[nextVals,h]
theorem nextChs_get (k j3:Int) (V:Nat) (s:SV) {n v:Nat} (h:v<n):(nextChs k j3 V s n).getD v false=(compV k j3 V s v).2:=by
 rw[List.getD_eq_getElem?_getD]
 simp[nextChs,h]
theorem comp_falls {k j3:Int} {V:Nat} {s:SV} {v:Nat} (hk:k=2∨k=3):(compV k j3 V s v).1≤s.vals.getD v 0:=by
 unfold compV compK
 rcases hk with rfl | rfl
 ·rw[if_neg (by decide),if_pos rfl]
  unfold ltakeOf
  split
  ·rename_i h
   exact Int.le_of_lt h.2
  exact Int.le_refl _
 rw[if_neg (by decide),if_neg (by decide),if_pos rfl]
 unfold takeOf
 split
 ·rename_i h
  exact Int.le_of_lt h.2
 exact Int.le_refl _
theorem next_falls {k j3:Int} {es:List Ed} {V:Nat} {s:SV} {v:Nat} (hk:k=2∨k=3) (hv:v<V):(nextV k j3 es V s).vals.getD v 0≤s.vals.getD v 0:=by
 show (nextVals k j3 V s V).getD v 0≤_
 rw[nextVals_get _ _ _ _ hv]
 exact comp_falls hk
theorem dadd_zero {a b:Int} (ha:0≤a) (hb:0≤b) (h:dadd a b=0):a=0∧b=0:=by
 have h1:=dist_bounds a
 have h2:=dist_bounds b
 have h3:dist a=0∧dist b=0:=by
  unfold dadd at h
  split at h <;> omega
 unfold dist at h3
 obtain⟨h4,h5⟩:=h3
 constructor
 ·split at h4 <;> (try split at h4) <;> omega
 split at h5 <;> (try split at h5) <;> omega
theorem tot_none {k:Int} {es:List Ed} {was vals:List Int} {chs:List Bool} (hk:k=2∨k=3):∀{n:Nat},(totV k es was vals chs n).2=0→∀v,v<n→chs.getD v false=false
 | 0,_,v,hv=>absurd hv (Nat.not_lt_zero v)
 | n+1,h,v,hv=>by
  have hj:∀s m q r:Int,joinF k s m q r=(dadd s q,dadd m r):=fun s m q r=>by
   unfold joinF
   rcases hk with rfl | rfl <;> simp
  rw[totV,hj] at h
  have h0:0≤(totV k es was vals chs n).2:=by
   cases n with
   | zero=>exact Int.le_refl _
   | succ n=>rw[totV,hj];exact (dadd_rg _ _).1
  have hp:∀c:Bool,(partT k (was.getD n 0) (vals.getD n 0) c (fromF es n).length).2=if c=true then 1 else 0:=fun c=>by
   unfold partT
   rcases hk with rfl | rfl <;> cases c <;> simp
  have hd:=dadd_zero h0 (by rw[hp];split <;> omega) h
  by_cases hv2:v<n
  ·exact tot_none hk hd.1 v hv2
  have e:v=n:=by omega
  subst e
  have h2:=hd.2
  rw[hp] at h2
  cases hc:chs.getD v false with
  | false=>rfl
  | true=>rw[hc] at h2;simp at h2
end Go.Proofs.YtgbahnlgblahpaaGreat

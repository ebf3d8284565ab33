/- Lemmas: Mrp, Mrq. -/
import Derived.Test.YtgbahnlgblahpaaGreatProg
import Derived.Deep.Strs
import Derived.Test.YtgbahnlgblahpaaGreatMkWw27
import Derived.Test.YtgbahnlgblahpaaGreatMkWw29
set_option linter.unusedVariables false
set_option linter.unusedSimpArgs false
set_option maxRecDepth 100000
set_option maxHeartbeats 16000000
namespace Go.Proofs.YtgbahnlgblahpaaGreat
open Go.RowKit
theorem comb23 {k:Int} (hk:k=2∨k=3) (a b:Int):combF k a b=min a b:=by
 unfold combF
 rw[if_neg (by omega),if_pos hk]
theorem addM_23 {k:Int} (hk:k=2∨k=3) (m:Ms):∀l:List Ms,(∃y∈addM k l m,y.1=m.1∧y.2≤m.2)∧(∀x∈l,∃y∈addM k l m,y.1=x.1∧y.2≤x.2)∧∀y∈addM k l m,y=m∨y∈l:=by
 intro l
 induction l with
 | nil=>exact⟨⟨m,by simp[addM],rfl,Int.le_refl _⟩,by simp,fun y hy => .inl (by simpa [addM] using hy)⟩
 | cons x l ih=>
  obtain⟨i1,i2,i3⟩:=ih
  by_cases h1:x.1<m.1
  ·have e:addM k (x :: l) m=x :: addM k l m:=by rw[addM,if_pos h1]
   rw[e]
   refine⟨?_,fun z hz=>?_,fun y hy=>?_⟩
   ·obtain⟨y,hy,h⟩:=i1;exact⟨y,List.mem_cons_of_mem _ hy,h⟩
   ·rcases List.mem_cons.1 hz with rfl | hz
    ·exact⟨z,List.mem_cons_self,rfl,Int.le_refl _⟩
    obtain⟨y,hy,h⟩:=i2 z hz;exact⟨y,List.mem_cons_of_mem _ hy,h⟩
   rcases List.mem_cons.1 hy with rfl | hy
   ·exact .inr List.mem_cons_self
   rcases i3 y hy with h | h
   ·exact .inl h
   exact .inr (List.mem_cons_of_mem _ h)
  by_cases h2:x.1=m.1
  ·have e:addM k (x :: l) m=(m.1,min x.2 m.2) :: l:=by rw[addM,if_neg h1,if_pos h2,comb23 hk]
   rw[e]
   refine⟨⟨_,List.mem_cons_self,rfl,by show min x.2 m.2≤m.2;omega⟩,fun z hz=>?_,fun y hy=>?_⟩
   ·rcases List.mem_cons.1 hz with rfl | hz
    ·exact⟨_,List.mem_cons_self,h2.symm,by show min z.2 m.2≤z.2;omega⟩
    exact⟨z,List.mem_cons_of_mem _ hz,rfl,Int.le_refl _⟩
   rcases List.mem_cons.1 hy with rfl | hy
   ·rcases Int.le_total x.2 m.2 with h | h
    ·refine .inr ?_
     rw[show min x.2 m.2=x.2 by omega,←h2];exact List.mem_cons_self
    refine .inl ?_
    rw[show min x.2 m.2=m.2 by omega]
   exact .inr (List.mem_cons_of_mem _ hy)
  have e:addM k (x :: l) m=m :: x :: l:=by rw[addM,if_neg h1,if_neg h2]
  rw[e]
  refine⟨⟨m,List.mem_cons_self,rfl,Int.le_refl _⟩,fun z hz=>⟨z,List.mem_cons_of_mem _ hz,rfl,Int.le_refl _⟩,fun y hy=>?_⟩
  rcases List.mem_cons.1 hy with h | h
  ·exact .inl h
  exact .inr h
theorem docM_23 {k:Int} (hk:k=2∨k=3) (l:List Ms):(∀x∈l,∃y∈docM k l,y.1=x.1∧y.2≤x.2)∧∀y∈docM k l,y∈l:=by
 have g:∀(l acc:List Ms),(∀x,x∈acc∨x∈l→∃y∈l.foldl (addM k) acc,y.1=x.1∧y.2≤x.2)∧∀y∈l.foldl (addM k) acc,y∈acc∨y∈l:=by
  intro l
  induction l with
  | nil=>intro acc;exact⟨fun x hx=>⟨x,hx.resolve_right (by simp),rfl,Int.le_refl _⟩,fun y hy => .inl hy⟩
  | cons m l ih=>
   intro acc
   obtain⟨a1,a2,a3⟩:=addM_23 hk m acc
   obtain⟨b1,b2⟩:=ih (addM k acc m)
   refine⟨fun x hx=>?_,fun y hy=>?_⟩
   ·have:∃z,(z∈addM k acc m∨z∈l)∧z.1=x.1∧z.2≤x.2:=by
     rcases hx with hx | hx
     ·obtain⟨z,hz,h⟩:=a2 x hx;exact⟨z,.inl hz,h⟩
     rcases List.mem_cons.1 hx with rfl | hx
     ·obtain⟨z,hz,h⟩:=a1;exact⟨z,.inl hz,h⟩
     exact⟨x,.inr hx,rfl,Int.le_refl _⟩
    obtain⟨z,hz,h1,h2⟩:=this
    obtain⟨y,hy,h3,h4⟩:=b1 z hz
    exact⟨y,hy,h3.trans h1,Int.le_trans h4 h2⟩
   rcases b2 y hy with h | h
   ·rcases a3 y h with h | h
    ·exact .inr (by rw[h];exact List.mem_cons_self)
    exact .inl h
   exact .inr (List.mem_cons_of_mem _ h)
 obtain⟨g1,g2⟩:=g l []
 exact⟨fun x hx=>g1 x (.inr hx),fun y hy=>(g2 y hy).resolve_left (by simp)⟩
theorem box_23 {k:Int} (hk:k=2∨k=3) (l:List Ms) (v:Int):(∀m∈l,m.1=v→∃x,boxF k l v=some x∧x≤m.2)∧∀x,boxF k l v=some x→∃m∈l,m.1=v∧m.2=x:=by
 have g:∀(l:List Ms) (f:Int→Option Int),(∀z,f v=some z→∃x,l.foldl (addB k) f v=some x∧x≤z)∧(∀m∈l,m.1=v→∃x,l.foldl (addB k) f v=some x∧x≤m.2)∧∀x,l.foldl (addB k) f v=some x→f v=some x∨∃m∈l,m.1=v∧m.2=x:=by
  intro l
  induction l with
  | nil=>intro f;exact⟨fun z hz=>⟨z,hz,Int.le_refl _⟩,by simp,fun x hx => .inl hx⟩
  | cons m l ih=>
   intro f
   obtain⟨b1,b2,b3⟩:=ih (addB k f m)
   have e:addB k f m v=if v=m.1 then some (match f m.1 with | some x=>min x m.2 | none=>m.2) else f v:=by
    unfold addB bxPut
    split
    ·cases f m.1 with
     | none=>rfl
     | some x=>simp only[comb23 hk]
    rfl
   refine⟨fun z hz=>?_,fun n hn hv=>?_,fun x hx=>?_⟩
   ·by_cases h:v=m.1
    ·rw[if_pos h,←h,hz] at e
     obtain⟨x,h1,h2⟩:=b1 (min z m.2) e
     exact⟨x,h1,Int.le_trans h2 (Int.min_le_left _ _)⟩
    rw[if_neg h,hz] at e
    exact b1 _ e
   ·rcases List.mem_cons.1 hn with rfl | hn
    ·rw[if_pos hv.symm] at e
     obtain⟨x,h1,h2⟩:=b1 _ e
     refine⟨x,h1,Int.le_trans h2 ?_⟩
     cases f n.1 with
     | none=>exact Int.le_refl _
     | some z=>exact Int.min_le_right _ _
    exact b2 n hn hv
   rcases b3 x hx with h | ⟨n,h1,h2⟩
   ·rw[e] at h
    by_cases h5:v=m.1
    ·rw[if_pos h5] at h
     injection h with h
     cases hf:f m.1 with
     | none=>
      rw[hf] at h
      exact .inr ⟨m,List.mem_cons_self,h5.symm,h⟩
     | some z=>
      rw[hf] at h
      simp only at h
      rcases Int.le_total z m.2 with h6 | h6
      ·refine .inl ?_
       rw[h5,hf,←h,show min z m.2=z by omega]
      exact .inr ⟨m,List.mem_cons_self,h5.symm,by omega⟩
    rw[if_neg h5] at h;exact .inl h
   exact .inr ⟨n,List.mem_cons_of_mem _ h1,h2⟩
 obtain⟨_,g2,g3⟩:=g l (fun _=>none)
 exact⟨g2,fun x hx=>(g3 x hx).resolve_left (by simp)⟩
def Sent (k:Int) (es:List Ed) (u t:Nat) (x y:Int):Prop:=
 (k=2∧t≠u∧y=x∧∃e∈es,(e.1=(u:Int)∧e.2.1=(t:Int))∨(e.2.1=(u:Int)∧e.1=(t:Int)))∨(k=3∧∃e∈es,e.1=(u:Int)∧e.2.1=(t:Int)∧y=dadd x e.2.2)
theorem near_mem (es:List Ed) (u t:Nat):((t:Int)∈nearF (u:Int) (fromF es u) (toF es u))↔t≠u∧∃e∈es,(e.1=(u:Int)∧e.2.1=(t:Int))∨(e.2.1=(u:Int)∧e.1=(t:Int)):=by
 unfold nearF
 rw[List.mem_filter,(compact_spec (sort_up _)).2]
 unfold sortI
 rw[List.mem_mergeSort,List.mem_append]
 unfold tos froms fromF toF
 constructor
 ·rintro ⟨h1,h2⟩
  refine⟨fun e=>by subst e;simp at h2,?_⟩
  rcases h1 with h1 | h1
  ·obtain⟨e,he,h3⟩:=List.mem_map.1 h1
   obtain⟨h4,h5⟩:=List.mem_filter.1 he
   exact⟨e,h4,.inl ⟨by simpa using h5,h3⟩⟩
  obtain⟨e,he,h3⟩:=List.mem_map.1 h1
  obtain⟨h4,h5⟩:=List.mem_filter.1 he
  exact⟨e,h4,.inr ⟨by simpa using h5,h3⟩⟩
 rintro ⟨h1,e,he,h2⟩
 refine⟨?_,by simp;omega⟩
 rcases h2 with ⟨h2,h3⟩ | ⟨h2,h3⟩
 ·exact .inl (List.mem_map.2 ⟨e,List.mem_filter.2 ⟨he,by simpa using h2⟩,h3⟩)
 exact .inr (List.mem_map.2 ⟨e,List.mem_filter.2 ⟨he,by simpa using h2⟩,h3⟩)
theorem snd_sent {k:Int} (hk:k=2∨k=3) (es:List Ed) (u t:Nat) (x y:Int):(((t:Int),y)∈sndL k true (u:Int) x (fromF es u) (toF es u))↔Sent k es u t x y:=by
 unfold sndL Sent
 rcases hk with rfl | rfl
 ·rw[if_neg (by decide),if_pos rfl]
  unfold lbMs
  rw[if_pos rfl,List.mem_map]
  constructor
  ·rintro ⟨z,hz,h⟩
   injection h with h1 h2
   subst h1
   obtain⟨a,b⟩:=(near_mem es u t).1 hz
   exact .inl ⟨rfl,a,h2.symm,b⟩
  rintro (⟨_,a,b,c⟩ | ⟨h,_⟩)
  ·exact⟨(t:Int),(near_mem es u t).2 ⟨a,c⟩,by rw[b]⟩
  exact absurd h (by decide)
 rw[if_neg (by decide),if_neg (by decide),if_pos rfl]
 unfold wyMs
 rw[if_pos rfl,List.mem_map]
 constructor
 ·rintro ⟨e,he,h⟩
  injection h with h1 h2
  obtain⟨h4,h5⟩:=List.mem_filter.1 he
  exact .inr ⟨rfl,e,h4,by simpa using h5,h1,h2.symm⟩
 rintro (⟨h,_⟩ | ⟨_,e,he,h1,h2,h3⟩)
 ·exact absurd h (by decide)
 exact⟨e,List.mem_filter.2 ⟨he,by simpa using h1⟩,by rw[h2,h3]⟩
theorem snd_none {k:Int} (hk:k=2∨k=3) (v y:Int) (a b:List Ed):sndL k false v y a b=[]:=by
 unfold sndL
 rcases hk with rfl | rfl
 ·rw[if_neg (by decide),if_pos rfl];rfl
 rw[if_neg (by decide),if_neg (by decide),if_pos rfl];rfl
def vA (s:SV) (v:Nat):Int:=s.vals.getD v 0
def cA (s:SV) (v:Nat):Bool:=s.chg.getD v false
def ToldS (k:Int) (es:List Ed) (V:Nat) (s:SV):Prop:=∀t:Nat,t<V→s.inb.getD t (false,0)=mlOf (boxF k (rowsV k es s.vals s.chg V).flatten (t:Int))
theorem told_get0 {k:Int} {es:List Ed} {vals:List Int} {chs:List Bool} {n v:Nat} (hv:v<n):(toldM k es vals chs n).getD v (false,0)=mlOf (boxF k (rowsV k es vals chs n).flatten (v:Int)):=by
 rw[List.getD_eq_getElem?_getD]
 simp[toldM,mails,ownL,hv]
theorem at_told (k j2 j3:Int) (es:List Ed) (V:Nat):∀n,ToldS k es V (atV k j2 j3 es V n)
 | 0=>fun t ht=>told_get0 ht
 | n+1=>fun t ht=>told_get0 ht
section
variable {k j2 j3:Int} {es:List Ed} {V:Nat} {s:SV}
theorem mail_23 (hk:k=2∨k=3) (hs:ToldS k es V s) {t:Nat} (ht:t<V) :
  (∀u y,u<V→cA s u=true→Sent k es u t (vA s u) y→∃x,s.inb.getD t (false,0)=(true,x)∧x≤y)∧∀x,s.inb.getD t (false,0)=(true,x)→∃u,u<V∧cA s u=true∧Sent k es u t (vA s u) x:=by
 have hb:=box_23 hk (rowsV k es s.vals s.chg V).flatten (t:Int)
 have hin:=hs t ht
 refine⟨fun u y hu hc hy=>?_,fun x hx=>?_⟩
 ·have hm:((t:Int),y)∈sndL k (s.chg.getD u false) (u:Int) (s.vals.getD u 0) (fromF es u) (toF es u):=by
   rw[show s.chg.getD u false=true from hc];exact (snd_sent hk es u t _ y).2 hy
  obtain⟨z,hz,h1,h2⟩:=(docM_23 hk _).1 _ hm
  have hz2:z∈(rowsV k es s.vals s.chg V).flatten:=List.mem_flatten.2 ⟨rowV k es s.vals s.chg u,List.mem_map.2 ⟨u,List.mem_range.2 hu,rfl⟩,hz⟩
  obtain⟨x,h3,h4⟩:=hb.1 z hz2 h1
  exact⟨x,by rw[hin,h3];rfl,Int.le_trans h4 h2⟩
 rw[hin] at hx
 cases hq:boxF k (rowsV k es s.vals s.chg V).flatten (t:Int) with
 | none=>rw[hq] at hx;cases hx
 | some z=>
  rw[hq] at hx
  injection hx with _ hx
  subst hx
  obtain⟨m,hm,h1,h2⟩:=hb.2 z hq
  obtain⟨r,hr,hmr⟩:=List.mem_flatten.1 hm
  obtain⟨u,hu,rfl⟩:=List.mem_map.1 hr
  have hmd:=(docM_23 hk _).2 m hmr
  refine⟨u,List.mem_range.1 hu,?_⟩
  cases hc:s.chg.getD u false with
  | false=>rw[hc,snd_none hk] at hmd;cases hmd
  | true=>
   refine⟨hc,?_⟩
   rw[hc] at hmd
   have:m=((t:Int),z):=Prod.ext h1 h2
   rw[this] at hmd
   exact (snd_sent hk es u t _ z).1 hmd
theorem sent_ge (hy0:∀u,u<V→0≤vA s u) {u t:Nat} {y:Int} (hu:u<V) (h:Sent k es u t (vA s u) y):0≤y:=by
 rcases h with ⟨_,_,h,_⟩ | ⟨_,e,_,_,_,h⟩
 ·rw[h];exact hy0 u hu
 rw[h];exact (dadd_rng _ _).1
theorem comp_23 (hk:k=2∨k=3) (hs:ToldS k es V s) (hy0:∀u,u<V→0≤vA s u) {t:Nat} (ht:t<V) :
  (∀u y,u<V→cA s u=true→Sent k es u t (vA s u) y→(compV k j3 V s t).1≤y) ∧
  (((compV k j3 V s t).1=vA s t∧(compV k j3 V s t).2=false)∨((compV k j3 V s t).2=true∧∃u,u<V∧cA s u=true∧Sent k es u t (vA s u) (compV k j3 V s t).1)):=by
 obtain⟨m1,m2⟩:=mail_23 hk hs ht
 have hc:∀has x,s.inb.getD t (false,0)=(has,x)→compV k j3 V s t=if has=true∧x<vA s t then (x,true) else (vA s t,false):=fun has x hx=>by
  unfold compV compK
  rw[hx]
  rcases hk with rfl | rfl
  ·rw[if_neg (by decide),if_pos rfl]
   unfold ltakeOf
   rfl
  rw[if_neg (by decide),if_neg (by decide),if_pos rfl]
  unfold takeOf
  dsimp only
  cases has with
  | false=>simp;rfl
  | true=>
   have h0:0≤x:=by
    obtain⟨u,hu,_,hse⟩:=m2 x hx
    exact sent_ge hy0 hu hse
   rw[show max x 0=x by omega]
   rfl
 rcases hq:s.inb.getD t (false,0) with ⟨has,x⟩
 rw[hc has x hq]
 refine⟨fun u y hu hcu hy=>?_,?_⟩
 ·obtain⟨x',h1,h2⟩:=m1 u y hu hcu hy
  rw[hq] at h1
  injection h1 with h3 h4
  subst h3 h4
  by_cases h:x<vA s t
  ·rw[if_pos ⟨rfl,h⟩];exact h2
  rw[if_neg (fun g=>h g.2)];show vA s t≤y;omega
 by_cases h:has=true∧x<vA s t
 ·rw[if_pos h]
  refine .inr ⟨rfl,?_⟩
  rw[h.1] at hq
  exact m2 x hq
 rw[if_neg h];exact .inl ⟨rfl,rfl⟩
theorem next_vA {v:Nat} (hv:v<V):vA (nextV k j3 es V s) v=(compV k j3 V s v).1:=nextVals_get k j3 V s hv
theorem next_cA {v:Nat} (hv:v<V):cA (nextV k j3 es V s) v=(compV k j3 V s v).2:=nextChs_get k j3 V s hv
theorem start_vA {v:Nat} (hv:v<V):vA (startV k j2 es V) v=(startA k j2 V (v:Int)).1:=by
 show (startVals k j2 V V).getD v 0=_
 rw[List.getD_eq_getElem?_getD]
 simp[startVals,hv]
theorem start_cA {v:Nat} (hv:v<V):cA (startV k j2 es V) v=(startA k j2 V (v:Int)).2:=by
 show (startChs k j2 V V).getD v false=_
 rw[List.getD_eq_getElem?_getD]
 simp[startChs,hv]
theorem at_ge (hk:k=2∨k=3):∀n u,u<V→0≤vA (atV k j2 j3 es V n) u
 | 0,u,hu=>by
  rw[atV,start_vA hu]
  unfold startA
  rcases hk with rfl | rfl
  ·rw[if_neg (by decide),if_pos rfl];show (0:Int)≤(u:Int);omega
  rw[if_neg (by decide),if_neg (by decide),if_pos rfl]
  unfold startOf
  dsimp only
  split <;> omega
 | n+1,u,hu=>by
  rw[atV,next_vA hu]
  rcases (comp_23 (j3:=j3) hk (at_told k j2 j3 es V n) (at_ge hk n) hu).2 with ⟨h,_⟩ | ⟨_,w,hw,_,h⟩
  ·rw[h];exact at_ge hk n u hu
  exact sent_ge (at_ge hk n) hw h
theorem at_falls (hk:k=2∨k=3) (n:Nat) {u:Nat} (hu:u<V):vA (atV k j2 j3 es V (n+1)) u≤vA (atV k j2 j3 es V n) u:=next_falls hk hu
theorem inv_I (hk:k=2∨k=3):∀n u t y,u<V→t<V→cA (atV k j2 j3 es V n) u=false→Sent k es u t (vA (atV k j2 j3 es V n) u) y→vA (atV k j2 j3 es V n) t≤y
 | 0,u,t,y,hu,ht,hc,hs=>by
  rw[atV,start_cA hu] at hc
  rw[atV,start_vA hu] at hs
  rw[atV,start_vA ht]
  unfold startA at hc hs ⊢
  rcases hk with rfl | rfl
  ·rw[if_neg (by decide),if_pos rfl] at hc;cases hc
  rw[if_neg (by decide),if_neg (by decide),if_pos rfl] at hc hs ⊢
  have hne:¬(u:Int)=j2:=by simpa using hc
  have e:startOf (u:Int) j2=inf:=by unfold startOf;rw[if_neg hne];rfl
  rcases hs with ⟨h,_⟩ | ⟨_,e9,_,_,_,h⟩
  ·exact absurd h (by decide)
  dsimp only at h
  rw[h,e,dadd_inf]
  show startOf (t:Int) j2≤inf
  unfold startOf inf
  split <;> omega
 | n+1,u,t,y,hu,ht,hc,hs=>by
  have h1:=comp_23 (j3:=j3) hk (at_told k j2 j3 es V n) (at_ge hk n) hu
  have h2:=comp_23 (j3:=j3) hk (at_told k j2 j3 es V n) (at_ge hk n) ht
  rw[atV,next_cA hu] at hc
  rw[atV,next_vA hu] at hs
  rcases h1.2 with ⟨e,_⟩ | ⟨e,_⟩
  ·rw[e] at hs
   cases hq:cA (atV k j2 j3 es V n) u with
   | true=>rw[atV,next_vA ht];exact h2.1 u y hu hq hs
   | false=>exact Int.le_trans (at_falls hk n ht) (inv_I hk n u t y hu ht hq hs)
  rw[e] at hc;cases hc
theorem inv_J (hk:k=2∨k=3) {n u t:Nat} {y:Int} (hu:u<V) (ht:t<V) (hs:Sent k es u t (vA (atV k j2 j3 es V n) u) y):vA (atV k j2 j3 es V (n+1)) t≤y:=by
 cases hq:cA (atV k j2 j3 es V n) u with
 | true=>
  rw[atV,next_vA ht]
  exact (comp_23 (j3:=j3) hk (at_told k j2 j3 es V n) (at_ge hk n) ht).1 u y hu hq hs
 | false=>exact Int.le_trans (at_falls hk n ht) (inv_I hk n u t y hu ht hq hs)
theorem tot_ge (hk:k=2∨k=3) (was vals:List Int) (chs:List Bool):∀n,0≤(totV k es was vals chs n).2
 | 0=>Int.le_refl _
 | n+1=>by
  have hj:∀s m q r:Int,joinF k s m q r=(dadd s q,dadd m r):=fun s m q r=>by
   unfold joinF
   rcases hk with rfl | rfl <;> simp
  rw[totV,hj];exact (dadd_rng _ _).1
theorem at_still (hk:k=2∨k=3) {n:Nat} (hn:1≤n) (hm:(atV k j2 j3 es V n).mo≤0):∀u,u<V→cA (atV k j2 j3 es V n) u=false:=by
 obtain⟨m,rfl⟩:∃m,n=m+1:=⟨n-1,by omega⟩
 have h0:(atV k j2 j3 es V (m+1)).mo=0:=Int.le_antisymm hm (tot_ge hk _ _ _ V)
 exact fun u hu=>tot_none hk h0 u hu
end
section
variable {j2 j3:Int} {es:List Ed} {V:Nat}
def offN (D:Nat→Int) (f:Nat→Int) (V:Nat):Nat:=(List.range V).countP fun v=>decide (f v≠D v)
theorem off_le {D f g:Nat→Int} {V:Nat} (h:∀v,v<V→f v=D v→g v=D v):offN D g V≤offN D f V∧((∃v,v<V∧f v≠D v∧g v=D v)→offN D g V<offN D f V):=by
 have hw:Within ([]:List Ed) (V+1):=fun e he=>by cases he
 have hc:=count_lt (es:=[]) (M:=V+1) (s:=0) hw (Int.le_refl _) (by omega) (fun v=>decide (g v≠D v)) (fun v=>decide (f v≠D v)) V (fun i hi hg=>by
  simp only[decide_eq_true_eq] at hg ⊢
  exact fun e=>hg (h i hi e))
 refine⟨hc.1,fun⟨v,hv,h1,h2⟩=>hc.2 ⟨v,hv,decide_eq_true h1,decide_eq_false (fun e=>e h2)⟩⟩
theorem off_zero {D f:Nat→Int} {V:Nat} (h:offN D f V=0) {v:Nat} (hv:v<V):f v=D v:=by
 have:=List.countP_eq_zero.1 h v (List.mem_range.2 hv)
 simpa using this
theorem off_lt {D f:Nat→Int} {V:Nat} {v:Nat} (hv:v<V) (h:f v=D v):offN D f V<V:=by
 have hw:Within ([]:List Ed) (V+1):=fun e he=>by cases he
 have hc:=(count_lt (es:=[]) (M:=V+1) (s:=0) hw (Int.le_refl _) (by omega) (fun v=>decide (f v≠D v)) (fun _=>true) V (fun _ _ _=>rfl)).2 ⟨v,hv,rfl,decide_eq_false (fun e=>e h)⟩
 rw[List.countP_true,List.length_range] at hc
 exact hc
theorem off_some {D f:Nat→Int} {V:Nat} (h:offN D f V≠0):∃v,v<V∧f v≠D v:=by
 obtain⟨v,hv,hf⟩:=List.countP_pos_iff.1 (Nat.pos_of_ne_zero h)
 exact⟨v,List.mem_range.1 hv,by simpa using hf⟩
theorem off_run {D:Nat→Int} {F:Nat→Nat→Int} {V:Nat} (h0:∃v,v<V∧F 0 v=D v) (hs:∀n,offN D (F n) V=0∨offN D (F (n+1)) V<offN D (F n) V) (hm:∀n,offN D (F (n+1)) V≤offN D (F n) V):∀n,V≤n→offN D (F n) V=0:=by
 obtain⟨v,hv,h⟩:=h0
 have h1:=off_lt hv h
 have key:∀n,offN D (F n) V=0∨offN D (F n) V+n<V:=by
  intro n
  induction n with
  | zero=>exact .inr (by omega)
  | succ n ih=>
   have:=hm n
   rcases ih with ih | ih
   ·exact .inl (by omega)
   rcases hs n with h2 | h2
   ·exact .inl (by omega)
   by_cases h3:offN D (F (n+1)) V=0
   ·exact .inl h3
   exact .inr (by omega)
 intro n hn
 rcases key n with h2 | h2
 ·exact h2
 omega
-- labels
abbrev LA (j2 j3:Int) (es:List Ed) (V n:Nat):SV:=atV 2 j2 j3 es V n
theorem lab_conn:∀n t,t<V→∃c:Nat,vA (LA j2 j3 es V n) t=(c:Int)∧Conn es t c
 | 0,t,ht=>by
  refine⟨t,?_,.refl⟩
  show vA (startV 2 j2 es V) t=_
  rw[start_vA ht];rfl
 | n+1,t,ht=>by
  have h:=(comp_23 (j3:=j3) (.inl rfl) (at_told 2 j2 j3 es V n) (at_ge (.inl rfl) n) ht).2
  show ∃c:Nat,vA (nextV 2 j3 es V (atV 2 j2 j3 es V n)) t=(c:Int)∧Conn es t c
  rw[next_vA ht]
  rcases h with ⟨e,_⟩ | ⟨_,u,hu,_,hs⟩
  ·rw[e];exact lab_conn n t ht
  rcases hs with ⟨_,_,hy,e,he,hh⟩ | ⟨h,_⟩
  ·obtain⟨c,h1,h2⟩:=lab_conn n u hu
   refine⟨c,hy.trans h1,Conn.trans ?_ h2⟩
   rcases hh with ⟨h3,h4⟩ | ⟨h3,h4⟩
   ·have:=Conn.bwd (x:=e.2.1.toNat) he .refl
    rw[h3,h4] at this
    simpa using this
   have:=Conn.fwd (x:=e.1.toNat) he .refl
   rw[h3,h4] at this
   simpa using this
  exact absurd h (by decide)
theorem lab_low (hw:Within es V) (n:Nat) {t:Nat} (ht:t<V):((labF es t:Nat):Int)≤vA (LA j2 j3 es V n) t:=by
 obtain⟨c,h1,h2⟩:=lab_conn (j2:=j2) (j3:=j3) (es:=es) (V:=V) n t ht
 have hk:=lab_ok hw
 rw[h1,hk.same h2]
 have hcV:c<V:=by
  have key:∀c,Conn es t c→c<V:=fun c h=>by
   induction h with
   | refl=>exact ht
   | fwd he _ _=>have:=hw _ he;omega
   | bwd he _ _=>have:=hw _ he;omega
  exact key c h2
 have:=hk.le c hcV
 omega
theorem lab_start (n:Nat) {t:Nat} (ht:t<V):vA (LA j2 j3 es V n) t≤(t:Int):=by
 induction n with
 | zero=>
  show vA (startV 2 j2 es V) t≤_
  rw[start_vA ht];exact Int.le_refl _
 | succ n ih=>exact Int.le_trans (at_falls (.inl rfl) n ht) ih
theorem conn_cut {es:List Ed} {r t:Nat} (P:Nat→Prop) (h:Conn es r t) (hr:P r) (ht:¬P t):∃e∈es,(P e.1.toNat∧¬P e.2.1.toNat)∨(P e.2.1.toNat∧¬P e.1.toNat):=by
 induction h with
 | refl=>exact absurd hr ht
 | @fwd e he _ ih=>
  by_cases hp:P e.1.toNat
  ·exact⟨e,he,.inl ⟨hp,ht⟩⟩
  exact ih hp
 | @bwd e he _ ih=>
  by_cases hp:P e.2.1.toNat
  ·exact⟨e,he,.inr ⟨hp,ht⟩⟩
  exact ih hp
theorem lab_step (hw:Within es V) (n:Nat):offN (fun v=>((labF es v:Nat):Int)) (vA (LA j2 j3 es V n)) V=0∨offN (fun v=>((labF es v:Nat):Int)) (vA (LA j2 j3 es V (n+1))) V<offN (fun v=>((labF es v:Nat):Int)) (vA (LA j2 j3 es V n)) V:=by
 have hk:=lab_ok hw
 by_cases h0:offN (fun v=>((labF es v:Nat):Int)) (vA (LA j2 j3 es V n)) V=0
 ·exact .inl h0
 obtain⟨t,ht,hne⟩:=off_some h0
 have hrt:labF es t<V:=Nat.lt_of_le_of_lt (hk.le t ht) ht
 have hrr:labF es (labF es t)=labF es t:=(hk.same (hk.conn t ht)).symm
 have hlr:vA (LA j2 j3 es V n) (labF es t)=((labF es (labF es t):Nat):Int):=by
  have h1:=lab_start (j2:=j2) (j3:=j3) (es:=es) n hrt
  have h2:=lab_low (j2:=j2) (j3:=j3) hw n hrt
  rw[hrr] at h2 ⊢
  omega
 obtain⟨e,he,hcut⟩:=conn_cut (fun v=>vA (LA j2 j3 es V n) v=((labF es v:Nat):Int)) (hk.conn t ht).symm hlr hne
 obtain⟨w1,w2,w3,w4⟩:=hw e he
 have hed:=hk.edge e he
 refine .inr ((off_le (fun v hv hf=>?_)).2 ?_)
 ·have h1:=at_falls (k:=2) (j2:=j2) (j3:=j3) (es:=es) (.inl rfl) n hv
  have h2:=lab_low (j2:=j2) (j3:=j3) hw (n+1) hv
  have h3:vA (atV 2 j2 j3 es V n) v=((labF es v:Nat):Int):=hf
  have h2':((labF es v:Nat):Int)≤vA (atV 2 j2 j3 es V (n+1)) v:=h2
  show vA (atV 2 j2 j3 es V (n+1)) v=_
  omega
 rcases hcut with ⟨p1,p2⟩ | ⟨p1,p2⟩
 ·have hs:Sent 2 es e.1.toNat e.2.1.toNat (vA (LA j2 j3 es V n) e.1.toNat) (vA (LA j2 j3 es V n) e.1.toNat):=.inl ⟨rfl,fun h=>p2 (by rw[h];exact p1),rfl,e,he,.inl ⟨by omega,by omega⟩⟩
  have hj:=inv_J (k:=2) (.inl rfl) (by omega) (by omega) hs
  have hl:=lab_low (j2:=j2) (j3:=j3) hw (n+1) (show e.2.1.toNat<V by omega)
  rw[p1,hed] at hj
  refine⟨e.2.1.toNat,by omega,p2,Int.le_antisymm hj hl⟩
 have hs:Sent 2 es e.2.1.toNat e.1.toNat (vA (LA j2 j3 es V n) e.2.1.toNat) (vA (LA j2 j3 es V n) e.2.1.toNat):=.inl ⟨rfl,fun h=>p2 (by rw[h];exact p1),rfl,e,he,.inr ⟨by omega,by omega⟩⟩
 have hj:=inv_J (k:=2) (.inl rfl) (by omega) (by omega) hs
 have hl:=lab_low (j2:=j2) (j3:=j3) hw (n+1) (show e.1.toNat<V by omega)
 rw[p1,←hed] at hj
 refine⟨e.1.toNat,by omega,p2,Int.le_antisymm hj hl⟩
theorem lab_far (hw:Within es V) (hV:1≤V) {n:Nat} (hn:V≤n) {t:Nat} (ht:t<V):vA (LA j2 j3 es V n) t=((labF es t:Nat):Int):=by
 have hk:=lab_ok hw
 have h:=off_run (D:=fun v=>((labF es v:Nat):Int)) (F:=fun n=>vA (LA j2 j3 es V n)) (V:=V) ⟨0,hV,?_⟩ (lab_step hw) (fun n=>(off_le (fun v hv hf=>?_)).1) n hn
 ·exact off_zero h ht
 ·have h1:=lab_start (j2:=j2) (j3:=j3) (es:=es) 0 (show 0<V by omega)
  have h2:=lab_low (j2:=j2) (j3:=j3) hw 0 (show 0<V by omega)
  exact Int.le_antisymm (Int.le_trans h1 (by omega)) h2
 have h1:=at_falls (k:=2) (j2:=j2) (j3:=j3) (es:=es) (.inl rfl) n hv
 have h2:=lab_low (j2:=j2) (j3:=j3) hw (n+1) hv
 rw[hf] at h1
 exact Int.le_antisymm h1 h2
theorem lab_still (hw:Within es V) {n:Nat} (hn:1≤n) (hm:(LA j2 j3 es V n).mo≤0) {t:Nat} (ht:t<V):vA (LA j2 j3 es V n) t=((labF es t:Nat):Int):=by
 have hc:=at_still (k:=2) (.inl rfl) hn hm
 have hle:∀a b,a<V→b<V→(∃e∈es,(e.1=(a:Int)∧e.2.1=(b:Int))∨(e.2.1=(a:Int)∧e.1=(b:Int)))→vA (LA j2 j3 es V n) b≤vA (LA j2 j3 es V n) a:=fun a b ha hb he=>by
  by_cases hab:b=a
  ·rw[hab];exact Int.le_refl _
  exact inv_I (.inl rfl) n a b _ ha hb (hc a ha) (.inl ⟨rfl,hab,rfl,he⟩)
 have hok:LabOk es V (fun v=>(vA (LA j2 j3 es V n) v).toNat):=by
  refine⟨fun e he=>?_,fun x hx=>?_,fun x hx=>?_⟩
  ·obtain⟨w1,w2,w3,w4⟩:=hw e he
   have a1:=hle e.1.toNat e.2.1.toNat (by omega) (by omega) ⟨e,he,.inl ⟨by omega,by omega⟩⟩
   have a2:=hle e.2.1.toNat e.1.toNat (by omega) (by omega) ⟨e,he,.inr ⟨by omega,by omega⟩⟩
   rw[Int.le_antisymm a2 a1]
  ·have:=lab_start (j2:=j2) (j3:=j3) (es:=es) n hx
   show (vA (LA j2 j3 es V n) x).toNat≤x
   omega
  obtain⟨c,h1,h2⟩:=lab_conn (j2:=j2) (j3:=j3) (es:=es) (V:=V) n x hx
  show Conn es x (vA (LA j2 j3 es V n) x).toNat
  rw[h1];simpa using h2
 have h1:=hok.unique (lab_ok hw) ht
 have h2:=at_ge (k:=2) (j2:=j2) (j3:=j3) (es:=es) (.inl rfl) n t ht
 show vA (atV 2 j2 j3 es V n) t=_
 have h3:(vA (atV 2 j2 j3 es V n) t).toNat=labF es t:=h1
 omega
-- paths
abbrev PA (j2 j3:Int) (es:List Ed) (V n:Nat):SV:=atV 3 j2 j3 es V n
theorem vA_at (s:SV) (v:Nat):vA s v=at_ s.vals (v:Int):=by
 unfold vA
 rw[at_nat,List.getD_eq_getElem?_getD]
theorem way_good (hw:Within es V) (h0:0≤j2) (h1:j2<V):∀n,Good V j2 (PA j2 j3 es V n).vals∧∀F,Feas es V j2 F→LeV V F (PA j2 j3 es V n).vals
 | 0=>by
  have e:(PA j2 j3 es V 0).vals=start0 V j2:=by
   show startVals 3 j2 V V=_
   unfold startVals start0
   apply List.map_congr_left
   intro v _
   unfold startA
   rw[if_neg (by decide),if_neg (by decide),if_pos rfl]
  rw[e]
  exact⟨good_start hw h0 h1,fun F hF=>feas_start hw h0 h1 hF⟩
 | n+1=>by
  obtain⟨g,lo⟩:=way_good hw h0 h1 n
  have hlen:(PA j2 j3 es V (n+1)).vals.length=V:=by
   show (nextVals 3 j3 V (atV 3 j2 j3 es V n) V).length=V
   simp[nextVals]
  have hstep:∀i,i<V→at_ (PA j2 j3 es V (n+1)).vals (i:Int)=at_ (PA j2 j3 es V n).vals (i:Int)∨∃u,u<V∧∃e∈es,e.1=(u:Int)∧e.2.1=(i:Int)∧at_ (PA j2 j3 es V (n+1)).vals (i:Int)=dadd (at_ (PA j2 j3 es V n).vals (u:Int)) e.2.2:=fun i hi=>by
   have h:=(comp_23 (j3:=j3) (.inr rfl) (at_told 3 j2 j3 es V n) (at_ge (.inr rfl) n) hi).2
   rw[←vA_at,←vA_at]
   show vA (nextV 3 j3 es V (atV 3 j2 j3 es V n)) i=_∨∃u,u<V∧∃e∈es,e.1=(u:Int)∧e.2.1=(i:Int)∧vA (nextV 3 j3 es V (atV 3 j2 j3 es V n)) i=_
   rw[next_vA hi]
   rcases h with ⟨e,_⟩ | ⟨_,u,hu,_,hs⟩
   ·exact .inl e
   rcases hs with ⟨h,_⟩ | ⟨_,e,he,h2,h3,h4⟩
   ·exact absurd h (by decide)
   exact .inr ⟨u,hu,e,he,h2,h3,by rw[h4,vA_at]⟩
  have hfall:∀i,i<V→at_ (PA j2 j3 es V (n+1)).vals (i:Int)≤at_ (PA j2 j3 es V n).vals (i:Int):=fun i hi=>by
   rw[←vA_at,←vA_at];exact at_falls (.inr rfl) n hi
  refine⟨⟨hlen,?_,fun i hi=>?_⟩,fun F hF i hi=>?_⟩
  ·have h2:=hfall j2.toNat (by omega)
   rw[←at_lt h0,←at_lt h0,g.src] at h2
   have h3:=at_ge (k:=3) (j2:=j2) (j3:=j3) (es:=es) (.inr rfl) (n+1) j2.toNat (show j2.toNat<V by omega)
   rw[vA_at,←at_lt h0] at h3
   exact Int.le_antisymm h2 h3
  ·have h3:=at_ge (k:=3) (j2:=j2) (j3:=j3) (es:=es) (.inr rfl) (n+1) i hi
   rw[vA_at] at h3
   exact⟨h3,Int.le_trans (hfall i hi) (g.rng i hi).2⟩
  rcases hstep i hi with h | ⟨u,hu,e,he,h2,h3,h4⟩
  ·rw[h];exact lo F hF i hi
  rw[h4,←h3]
  have h5:=hF.edge e he
  have h6:=lo F hF u hu
  rw[h2] at h5
  exact Int.le_trans h5 (dadd_mono _ h6)
theorem near_edge {es:List Ed} {M:Nat} {s:Int} (hw:Within es M) (hs0:0≤s) (hs1:s<M) {D l:List Int} (hgD:Good M s D) (hD:Feas es M s D) (hmax:∀F,Feas es M s F→LeV M F D) (hg:Good M s l) (hl:LeV M D l) :
  (∃e∈es,at_ l e.1=at_ D e.1∧dadd (at_ D e.1) e.2.2=at_ D e.2.1∧at_ l e.2.1≠at_ D e.2.1)∨l=D:=by
 by_cases hc:∃e∈es,at_ l e.1=at_ D e.1∧dadd (at_ D e.1) e.2.2=at_ D e.2.1∧at_ l e.2.1≠at_ D e.2.1
 ·exact .inl hc
 right
 have hshut:Shut_ D es (rowB M fun i=>decide (at_ l i=at_ D i)):=fun e he a b=>by
  obtain⟨w1,w2,w3,w4⟩:=hw e he
  rw[rowB_at _ w1 w2,←at_lt w1,←at_lt w1] at a
  rw[rowB_at _ w3 w4,←at_lt w3,←at_lt w3]
  refine decide_eq_true ?_
  apply Classical.byContradiction
  intro hn
  exact hc ⟨e,he,by simpa using a,b,hn⟩
 refine ext_at (by rw[hg.len,hgD.len]) (fun i hi=>?_)
 have hi':i<M:=by rw[←hg.len];exact hi
 by_cases hfin:at_ D i<inf
 ·have:=attained hw hs0 hs1 hgD hD hmax hshut (by simp[rowB]) (first_bat hw hs0 hs1 _ (by
   rw[rowB,List.getElem?_map,List.getElem?_range (by omega)]
   simp only[Option.map_some]
   rw[←at_lt hs0,←at_lt hs0,hg.src,hgD.src,decide_eq_true rfl])) hi' hfin
  obtain⟨_,h⟩:=rowB_true _ this
  simpa using h
 have a:=hl i hi'
 have b:=(hg.rng i hi').2
 have c:=(hgD.rng i hi').2
 omega
theorem way_far (hc:checkF (V:Int) es=0) (h0:0≤j2) (h1:j2<(V:Int)) {n:Nat} (hn:V≤n):(PA j2 j3 es V n).vals=relaxedF (V:Int) es j2:=by
 have hw:=within_of hc
 rw[Int.toNat_natCast] at hw
 obtain⟨D,hgD,hD,hmax⟩:=exists_D hw h0 h1
 have hDr:D=relaxedF (V:Int) es j2:=fin_relaxed hc h0 h1 (by rw[Int.toNat_natCast];exact hgD) (by rw[Int.toNat_natCast];exact hD) (by rw[Int.toNat_natCast];exact hmax)
 rw[←hDr]
 have hgood:=way_good (j3:=j3) hw h0 h1
 have hlow:∀n v,v<V→at_ D (v:Int)≤vA (PA j2 j3 es V n) v:=fun n v hv=>by rw[vA_at];exact (hgood n).2 D hD v hv
 have h:=off_run (D:=fun v=>at_ D (v:Int)) (F:=fun n=>vA (PA j2 j3 es V n)) (V:=V) ⟨j2.toNat,by omega,?_⟩ (fun n=>?_) (fun n=>(off_le (fun v hv hf=>?_)).1) n hn
 ·refine ext_at (by rw[(hgood n).1.len,hgD.len]) (fun i hi=>?_)
  rw[←vA_at]
  exact off_zero h (by rw[←(hgood n).1.len];exact hi)
 ·show vA (PA j2 j3 es V 0) j2.toNat=at_ D (j2.toNat:Int)
  rw[vA_at,←at_lt h0,←at_lt h0,(hgood 0).1.src,hgD.src]
 ·by_cases hz:offN (fun v=>at_ D (v:Int)) (vA (PA j2 j3 es V n)) V=0
  ·exact .inl hz
  refine .inr ((off_le (fun v hv hf=>?_)).2 ?_)
  ·have h1:=at_falls (k:=3) (j2:=j2) (j3:=j3) (es:=es) (.inr rfl) n hv
   have h2:=hlow (n+1) v hv
   rw[hf] at h1
   exact Int.le_antisymm h1 h2
  rcases near_edge hw h0 h1 hgD hD hmax (hgood n).1 ((hgood n).2 D hD) with ⟨e,he,g1,g2,g3⟩ | g
  ·obtain⟨w1,w2,w3,w4⟩:=hw e he
   have hs:Sent 3 es e.1.toNat e.2.1.toNat (vA (PA j2 j3 es V n) e.1.toNat) (dadd (vA (PA j2 j3 es V n) e.1.toNat) e.2.2):=.inr ⟨rfl,e,he,by omega,by omega,rfl⟩
   have hj:=inv_J (k:=3) (.inr rfl) (by omega) (by omega) hs
   rw[vA_at (PA j2 j3 es V n),←at_lt w1,g1,g2] at hj
   refine⟨e.2.1.toNat,by omega,?_,?_⟩
   ·rw[vA_at,←at_lt w3,←at_lt w3];exact g3
   have h2:=hlow (n+1) e.2.1.toNat (by omega)
   rw[←at_lt w3] at h2 ⊢
   exact Int.le_antisymm hj h2
  refine absurd ?_ hz
  have hall:∀v,v<V→vA (PA j2 j3 es V n) v=at_ D (v:Int):=fun v _=>by rw[vA_at,g]
  unfold offN
  rw[List.countP_eq_zero]
  intro v hv
  simp[hall v (List.mem_range.1 hv)]
 have h1:=at_falls (k:=3) (j2:=j2) (j3:=j3) (es:=es) (.inr rfl) n hv
 have h2:=hlow (n+1) v hv
 rw[hf] at h1
 exact Int.le_antisymm h1 h2
theorem way_still (hc:checkF (V:Int) es=0) (h0:0≤j2) (h1:j2<(V:Int)) {n:Nat} (hn:1≤n) (hm:(PA j2 j3 es V n).mo≤0):(PA j2 j3 es V n).vals=relaxedF (V:Int) es j2:=by
 have hw:=within_of hc
 rw[Int.toNat_natCast] at hw
 have hst:=at_still (k:=3) (.inr rfl) hn hm
 obtain⟨g,lo⟩:=way_good (j3:=j3) hw h0 h1 n
 refine fin_relaxed hc h0 h1 (by rw[Int.toNat_natCast];exact g) ?_ (by rw[Int.toNat_natCast];exact lo)
 rw[Int.toNat_natCast]
 refine⟨g.len,by rw[g.src];exact Int.le_refl _,fun i hi=>(g.rng i hi).2,fun e he=>?_⟩
 obtain⟨w1,w2,w3,w4⟩:=hw e he
 have hi:=inv_I (k:=3) (.inr rfl) n e.1.toNat e.2.1.toNat (dadd (vA (PA j2 j3 es V n) e.1.toNat) e.2.2) (by omega) (by omega) (hst _ (by omega)) (.inr ⟨rfl,e,he,by omega,by omega,rfl⟩)
 rw[vA_at,vA_at (PA j2 j3 es V n),←at_lt w1,←at_lt w3] at hi
 exact hi
end
end Go.Proofs.YtgbahnlgblahpaaGreat

/- Lemmas: Mlp, Ptq, Mld, Mhp, Mdp. -/
import Derived.Test.YtgbahnlgblahpaaGreatMkWw28
set_option linter.unusedVariables false
set_option linter.unusedSimpArgs false
set_option maxRecDepth 100000
set_option maxHeartbeats 16000000
namespace Go.Proofs.YtgbahnlgblahpaaGreat
def upAt (u:List Nat) (v:Nat):Nat:=(u[v]?).getD v
def UpOk (u:List Nat):Prop:=∀v,upAt u v≤v
def rootF (u:List Nat) (v:Nat):Nat:=if h:upAt u v<v then rootF u (upAt u v) else v
termination_by v
theorem root_step {u:List Nat} {v:Nat} (h:upAt u v<v):rootF u v=rootF u (upAt u v):=by rw[rootF,dif_pos h]
theorem root_self {u:List Nat} {v:Nat} (h:¬upAt u v<v):rootF u v=v:=by rw[rootF,dif_neg h]
theorem root_le (u:List Nat):∀v,rootF u v≤v:=fun v=>by
 induction v using Nat.strongRecOn with
 | _ v ih=>
  by_cases h:upAt u v<v
  ·rw[root_step h];exact Nat.le_trans (ih _ h) (Nat.le_of_lt h)
  rw[root_self h];exact Nat.le_refl _
theorem root_fix {u:List Nat} (hu:UpOk u):∀v,upAt u (rootF u v)=rootF u v:=fun v=>by
 induction v using Nat.strongRecOn with
 | _ v ih=>
  by_cases h:upAt u v<v
  ·rw[root_step h];exact ih _ h
  rw[root_self h];have:=hu v;omega
theorem root_of_fix {u:List Nat} {v:Nat} (h:upAt u v=v):rootF u v=v:=root_self (by omega)
theorem root_root {u:List Nat} (hu:UpOk u) (v:Nat):rootF u (rootF u v)=rootF u v:=root_of_fix (root_fix hu v)
theorem fix_of_root {u:List Nat} (hu:UpOk u) {v:Nat} (h:rootF u v=v):upAt u v=v:=by have:=root_fix hu v;rwa [h] at this
theorem upAt_set (u:List Nat) (v y x:Nat):upAt (u.set v y) x=if x=v∧v<u.length then y else upAt u x:=by
 unfold upAt
 rw[List.getElem?_set]
 by_cases h:v=x
 ·subst h
  by_cases hl:v<u.length
  ·simp[hl]
  simp[hl]
 rw[if_neg h,if_neg (fun g=>h g.1.symm)]
theorem set_ok {u:List Nat} (hu:UpOk u) {v y:Nat} (hy:y≤v):UpOk (u.set v y):=fun x=>by
 rw[upAt_set]
 split
 ·rename_i h;rw[h.1];exact hy
 exact hu x
theorem set_root {u:List Nat} (hu:UpOk u) (v:Nat):∀x,rootF (u.set v (rootF u v)) x=rootF u x:=fun x=>by
 have hle:=root_le u v
 induction x using Nat.strongRecOn with
 | _ x ih=>
  have hat:=upAt_set u v (rootF u v) x
  by_cases hc:x=v∧v<u.length
  ·rw[if_pos hc] at hat
   obtain⟨rfl,hl⟩:=hc
   by_cases hr:rootF u x<x
   ·rw[root_step (by rw[hat];exact hr),hat,ih _ hr,root_root hu]
   rw[root_self (by rw[hat];exact hr)];omega
  rw[if_neg hc] at hat
  by_cases hr:upAt u x<x
  ·rw[root_step (by rw[hat];exact hr),hat,ih _ hr,root_step hr]
  rw[root_self (by rw[hat];exact hr),root_self hr]
theorem set_join {u:List Nat} (hu:UpOk u) {a b:Nat} (ha:upAt u a=a) (hb:upAt u b=b) (hal:a<u.length) (hbl:b<u.length) :
  ∀x,rootF (u.set (max a b) (min a b)) x=if rootF u x=max a b then min a b else rootF u x:=fun x=>by
 induction x using Nat.strongRecOn with
 | _ x ih=>
  have hat:=upAt_set u (max a b) (min a b) x
  have hmf:rootF u (min a b)=min a b:=by
   rcases Nat.le_total a b with h | h
   ·rw[Nat.min_eq_left h];exact root_of_fix ha
   rw[Nat.min_eq_right h];exact root_of_fix hb
  have hxf:rootF u (max a b)=max a b:=by
   rcases Nat.le_total a b with h | h
   ·rw[Nat.max_eq_right h];exact root_of_fix hb
   rw[Nat.max_eq_left h];exact root_of_fix ha
  by_cases hc:x=max a b∧max a b<u.length
  ·rw[if_pos hc] at hat
   obtain⟨rfl,hl⟩:=hc
   rw[hxf,if_pos rfl]
   by_cases hr:min a b<max a b
   ·rw[root_step (by rw[hat];exact hr),hat,ih _ hr,hmf,if_neg (by omega)]
   rw[root_self (by rw[hat];exact hr)];omega
  rw[if_neg hc] at hat
  by_cases hr:upAt u x<x
  ·rw[root_step (by rw[hat];exact hr),hat,ih _ hr,root_step hr]
  have hne:x≠max a b:=fun h=>hc ⟨h,by omega⟩
  rw[root_self (by rw[hat];exact hr),root_self hr,if_neg hne]
def labStep (f:Nat→Nat) (e:Ed):Nat→Nat:=fun x=>if f x=max (f e.1.toNat) (f e.2.1.toNat) then min (f e.1.toNat) (f e.2.1.toNat) else f x
def labF (es:List Ed):Nat→Nat:=es.foldl labStep id
inductive Conn (es:List Ed) (x:Nat):Nat→Prop
 | refl:Conn es x x
 | fwd {e:Ed}:e∈es→Conn es x e.1.toNat→Conn es x e.2.1.toNat
 | bwd {e:Ed}:e∈es→Conn es x e.2.1.toNat→Conn es x e.1.toNat
theorem Conn.trans {es:List Ed} {x y z:Nat} (h:Conn es x y) (g:Conn es y z):Conn es x z:=by
 induction g with
 | refl=>exact h
 | fwd he _ ih=>exact .fwd he ih
 | bwd he _ ih=>exact .bwd he ih
theorem Conn.symm {es:List Ed} {x y:Nat} (h:Conn es x y):Conn es y x:=by
 induction h with
 | refl=>exact .refl
 | fwd he _ ih=>exact (Conn.bwd he .refl).trans ih
 | bwd he _ ih=>exact (Conn.fwd he .refl).trans ih
structure LabOk (es:List Ed) (n:Nat) (f:Nat→Nat):Prop where
 edge:∀e∈es,f e.1.toNat=f e.2.1.toNat
 le:∀x,x<n→f x≤x
 conn:∀x,x<n→Conn es x (f x)
theorem LabOk.same {es:List Ed} {n:Nat} {f:Nat→Nat} (h:LabOk es n f) {x y:Nat} (g:Conn es x y):f x=f y:=by
 induction g with
 | refl=>rfl
 | fwd he _ ih=>rw[ih,h.edge _ he]
 | bwd he _ ih=>rw[ih,h.edge _ he]
theorem LabOk.least {es:List Ed} {n:Nat} {f g:Nat→Nat} (h:LabOk es n f) (k:LabOk es n g) {x:Nat} (hx:x<n):f x≤g x:=by
 rw[h.same (k.conn x hx)]
 exact h.le _ (Nat.lt_of_le_of_lt (k.le x hx) hx)
theorem LabOk.unique {es:List Ed} {n:Nat} {f g:Nat→Nat} (h:LabOk es n f) (k:LabOk es n g) {x:Nat} (hx:x<n):f x=g x:=
 Nat.le_antisymm (h.least k hx) (k.least h hx)
theorem lab_ok {es:List Ed} {n:Nat} (hw:Within es n):LabOk es n (labF es):=by
 have key:∀(p done:List Ed) (f:Nat→Nat),(∀e∈p,e∈es)→(∀e∈done,e∈es)→(∀e∈done,f e.1.toNat=f e.2.1.toNat)→(∀x,f x≤x)→(∀x,Conn es x (f x)) →
   (∀e∈done ++ p,(p.foldl labStep f) e.1.toNat=(p.foldl labStep f) e.2.1.toNat)∧(∀x,(p.foldl labStep f) x≤x)∧∀x,Conn es x ((p.foldl labStep f) x):=by
  intro p
  induction p with
  | nil=>intro done f _ _ h1 h2 h3;exact⟨by simpa using h1,h2,h3⟩
  | cons e p ih=>
   intro done f hp hd h1 h2 h3
   have hee:e∈es:=hp e (by simp)
   have q:∀x,labStep f e x=if f x=max (f e.1.toNat) (f e.2.1.toNat) then min (f e.1.toNat) (f e.2.1.toNat) else f x:=fun x=>rfl
   obtain⟨A,hA⟩:∃A,f e.1.toNat=A:=⟨_,rfl⟩
   obtain⟨B,hB⟩:∃B,f e.2.1.toNat=B:=⟨_,rfl⟩
   rw[hA,hB] at q
   have hAB:Conn es A B:=(((hA ▸ h3 e.1.toNat).symm).trans (.fwd hee .refl)).trans (hB ▸ h3 e.2.1.toNat)
   have:=ih (done ++ [e]) (labStep f e) (fun x hx=>hp x (List.mem_cons_of_mem _ hx)) (fun x hx=>by
    rcases List.mem_append.1 hx with hx | hx
    ·exact hd x hx
    ·rw[List.mem_singleton.1 hx];exact hee) (fun x hx=>by
    rcases List.mem_append.1 hx with hx | hx
    ·rw[q,q,h1 x hx]
    ·rw[List.mem_singleton.1 hx,q,q,hA,hB]
     (repeat' split) <;> omega) (fun x=>by
    rw[q];have:=h2 x;split <;> omega) (fun x=>by
    rw[q]
    split
    ·rename_i hx
     have h4:=h3 x
     rw[hx] at h4
     rcases Nat.le_total A B with h | h
     ·rw[Nat.min_eq_left h];rw[Nat.max_eq_right h] at h4;exact h4.trans hAB.symm
     rw[Nat.min_eq_right h];rw[Nat.max_eq_left h] at h4;exact h4.trans hAB
    exact h3 x)
   rw[List.append_assoc] at this
   exact this
 obtain⟨h1,h2,h3⟩:=key es [] id (fun _ h=>h) (by simp) (by simp) (fun x=>Nat.le_refl _) (fun x => .refl)
 exact⟨fun e he=>h1 e (by simpa using he),fun x _=>h2 x,fun x _=>h3 x⟩
def inf:Int:=4611686018427387904
theorem dadd_eq (a b:Int):dadd a b=min (dist a+dist b) inf:=by unfold dadd inf;split <;> omega
theorem dist_mono {a b:Int} (h:a≤b):dist a≤dist b:=by unfold dist;(repeat' split) <;> omega
theorem dadd_mono {a b:Int} (c:Int) (h:a≤b):dadd a c≤dadd b c:=by
 have:=dist_mono h
 rw[dadd_eq,dadd_eq];omega
theorem dadd_rng (a b:Int):0≤dadd a b∧dadd a b≤inf:=by
 have h1:=dist_bounds a
 have h2:=dist_bounds b
 rw[dadd_eq];unfold inf;omega
def step (l:List Int) (e:Ed):List Int:=l.set e.2.1.toNat (takeOf (at_ l e.2.1) true (dadd (at_ l e.1) e.2.2)).1
def round (es:List Ed) (l:List Int):List Int:=es.foldl step l
def roundsN (es:List Ed):Nat→List Int→List Int
 | 0,l=>l
 | n+1,l=>roundsN es n (round es l)
def start0 (M:Nat) (s:Int):List Int:=(List.range M).map fun (v:Nat)=>startOf (v:Int) s
theorem take_min (a x:Int) (h:0≤x):(takeOf a true x).1=min a x:=by
 unfold takeOf
 by_cases h:max x 0<a
 ·rw[if_pos ⟨rfl,h⟩];dsimp only;omega
 rw[if_neg (fun g=>h g.2)];dsimp only;omega
theorem step_len (l:List Int) (e:Ed):(step l e).length=l.length:=by unfold step;simp
theorem at_nat (l:List Int) (i:Nat):at_ l (i:Int)=(l[i]?).getD 0:=by unfold at_;rw[Int.toNat_natCast]
theorem step_at (l:List Int) (e:Ed) (i:Nat) (hi:i<l.length) (he:0≤e.2.1):at_ (step l e) (i:Int)=if (i:Int)=e.2.1 then min (at_ l e.2.1) (dadd (at_ l e.1) e.2.2) else at_ l (i:Int):=by
 unfold step
 rw[at_nat,List.getElem?_set]
 by_cases h:e.2.1.toNat=i
 ·rw[if_pos h,if_pos (by omega),if_pos (by omega),take_min _ _ (dadd_rng _ _).1];rfl
 rw[if_neg h,if_neg (by omega),at_nat]
theorem round_len (es:List Ed):∀l:List Int,(round es l).length=l.length:=by
 unfold round
 induction es with
 | nil=>intro l;rfl
 | cons e es ih=>intro l;rw[List.foldl_cons,ih,step_len]
theorem at_lt {l:List Int} {i:Int} (h:0≤i):at_ l i=at_ l (i.toNat:Int):=by rw[show ((i.toNat:Nat):Int)=i by omega]
theorem ext_at {a b:List Int} (hl:a.length=b.length) (h:∀i:Nat,i<a.length→at_ a i=at_ b i):a=b:=by
 apply List.ext_getElem hl
 intro i h1 h2
 have:=h i h1
 rw[at_nat,at_nat,List.getElem?_eq_getElem h1,List.getElem?_eq_getElem h2] at this
 exact this
def LeV (M:Nat) (a b:List Int):Prop:=∀i:Nat,i<M→at_ a i≤at_ b i
structure Feas (es:List Ed) (M:Nat) (s:Int) (F:List Int):Prop where
 len:F.length=M
 src:at_ F s≤0
 top:∀i:Nat,i<M→at_ F i≤inf
 edge:∀e∈es,at_ F e.2.1≤dadd (at_ F e.1) e.2.2
structure Good (M:Nat) (s:Int) (l:List Int):Prop where
 len:l.length=M
 src:at_ l s=0
 rng:∀i:Nat,i<M→0≤at_ l i∧at_ l i≤inf
theorem good_start {es:List Ed} {M:Nat} {s:Int} (hw:Within es M) (hs0:0≤s) (hs1:s<M):Good M s (start0 M s):=by
 have hat:∀i:Nat,i<M→at_ (start0 M s) i=startOf (i:Int) s:=fun i hi=>by
  rw[at_nat,start0,List.getElem?_map,List.getElem?_range hi];rfl
 refine⟨by simp[start0],?_,fun i hi=>?_⟩
 ·rw[at_lt hs0,hat _ (by omega),startOf,if_pos (by omega)]
 rw[hat i hi,startOf];unfold inf;split <;> omega
theorem feas_start {es:List Ed} {M:Nat} {s:Int} (hw:Within es M) (hs0:0≤s) (hs1:s<M) {F:List Int} (hF:Feas es M s F):LeV M F (start0 M s):=fun i hi=>by
 rw[at_nat (start0 M s),start0,List.getElem?_map,List.getElem?_range hi]
 show at_ F i≤startOf (i:Int) s
 unfold startOf
 split
 ·rename_i h;rw[h];exact hF.src
 have:=hF.top i hi;unfold inf at this;exact this
theorem good_step {es:List Ed} {M:Nat} {s:Int} (hw:Within es M) (hs0:0≤s) (hs1:s<M) {l:List Int} (h:Good M s l) {e:Ed} (he:e∈es):Good M s (step l e):=by
 obtain⟨w1,w2,w3,w4⟩:=hw e he
 have r1:=dadd_rng (at_ l e.1) e.2.2
 have r2:=h.rng e.2.1.toNat (by omega)
 rw[←at_lt w3] at r2
 refine⟨by rw[step_len,h.len],?_,fun i hi=>?_⟩
 ·rw[at_lt hs0,step_at l e _ (by rw[h.len];omega) w3]
  split
  ·rename_i hq
   have:at_ l e.2.1=0:=by rw[←hq,←at_lt hs0];exact h.src
   omega
  rw[←at_lt hs0];exact h.src
 rw[step_at l e i (by rw[h.len];exact hi) w3]
 split
 ·omega
 exact h.rng i hi
theorem le_step {es:List Ed} {M:Nat} {s:Int} (hw:Within es M) (hs0:0≤s) (hs1:s<M) {l F:List Int} (hl:l.length=M) (hF:Feas es M s F) (h:LeV M F l) {e:Ed} (he:e∈es):LeV M F (step l e):=fun i hi=>by
 obtain⟨w1,w2,w3,w4⟩:=hw e he
 rw[step_at l e i (by omega) w3]
 split
 ·rename_i hq
  have h1:=h e.2.1.toNat (by omega)
  have h2:=h e.1.toNat (by omega)
  rw[←at_lt w3,←at_lt w3] at h1
  rw[←at_lt w1,←at_lt w1] at h2
  have h3:=hF.edge e he
  have h4:=dadd_mono e.2.2 h2
  rw[hq];omega
 exact h i hi
theorem step_le {es:List Ed} {M:Nat} {s:Int} (hw:Within es M) (hs0:0≤s) (hs1:s<M) {l:List Int} (hl:l.length=M) {e:Ed} (he:e∈es):LeV M (step l e) l:=fun i hi=>by
 obtain⟨w1,w2,w3,w4⟩:=hw e he
 rw[step_at l e i (by omega) w3]
 split
 ·rename_i hq;rw[hq];omega
 exact Int.le_refl _
theorem fold_all {es:List Ed} {M:Nat} {s:Int} (hw:Within es M) (hs0:0≤s) (hs1:s<M) {D:List Int} (hD:Feas es M s D):∀(p:List Ed) (l:List Int),(∀e∈p,e∈es)→Good M s l→LeV M D l →
  Good M s (p.foldl step l)∧LeV M D (p.foldl step l)∧LeV M (p.foldl step l) l∧(∀e∈p,at_ l e.1=at_ D e.1→dadd (at_ D e.1) e.2.2=at_ D e.2.1→at_ (p.foldl step l) e.2.1=at_ D e.2.1):=by
 intro p
 induction p with
 | nil=>intro l _ hg hl;exact⟨hg,hl,fun i _=>Int.le_refl _,fun e he=>by cases he⟩
 | cons x p ih=>
  intro l hm hg hl
  have hx:=hm x (by simp)
  obtain⟨i1,i2,i3,i4⟩:=ih (step l x) (fun e he=>hm e (List.mem_cons_of_mem _ he)) (good_step hw hs0 hs1 hg hx) (le_step hw hs0 hs1 hg.len hD hl hx)
  have h3:=step_le hw hs0 hs1 hg.len hx
  rw[List.foldl_cons]
  refine⟨i1,i2,fun i hi=>Int.le_trans (i3 i hi) (h3 i hi),fun e he h1 h2=>?_⟩
  obtain⟨w1,w2,w3,w4⟩:=hw e (hm e he)
  rcases List.mem_cons.1 he with rfl | he
  ·have ha:=i2 e.2.1.toNat (by omega)
   have hb:=i3 e.2.1.toNat (by omega)
   rw[step_at l e _ (by rw[hg.len];omega) w3,if_pos (by omega),h1,h2] at hb
   rw[←at_lt w3,←at_lt w3] at ha
   rw[←at_lt w3] at hb
   omega
  refine i4 e he ?_ h2
  have ha:=le_step hw hs0 hs1 hg.len hD hl hx e.1.toNat (by omega)
  have hb:=h3 e.1.toNat (by omega)
  rw[←at_lt w1,←at_lt w1] at ha hb
  omega
theorem fold_fix {es:List Ed} {M:Nat} {s:Int} (hw:Within es M) (hs0:0≤s) (hs1:s<M):∀(p:List Ed) (l:List Int),(∀e∈p,e∈es)→l.length=M→LeV M (p.foldl step l) l∧(LeV M l (p.foldl step l)→∀e∈p,at_ l e.2.1≤dadd (at_ l e.1) e.2.2):=by
 intro p
 induction p with
 | nil=>intro l _ _;exact⟨fun i _=>Int.le_refl _,fun _ e he=>by cases he⟩
 | cons x p ih=>
  intro l hm hl
  have hx:=hm x (by simp)
  have hl':(step l x).length=M:=by rw[step_len,hl]
  obtain⟨i1,i2⟩:=ih (step l x) (fun e he=>hm e (List.mem_cons_of_mem _ he)) hl'
  have h3:=step_le hw hs0 hs1 hl hx
  rw[List.foldl_cons]
  refine⟨fun i hi=>Int.le_trans (i1 i hi) (h3 i hi),fun heq e he=>?_⟩
  have hsx:step l x=l:=ext_at (by rw[hl',hl]) (fun i hi=>by
   have a:=h3 i (by omega)
   have b:=heq i (by omega)
   have c:=i1 i (by omega)
   omega)
  rcases List.mem_cons.1 he with rfl | he
  ·obtain⟨w1,w2,w3,w4⟩:=hw e hx
   have:=step_at l e e.2.1.toNat (by omega) w3
   rw[hsx,if_pos (by omega),←at_lt w3] at this
   omega
  rw[hsx] at i2 heq
  exact i2 heq e he
def sumV (l:List Int):Nat:=(l.map Int.toNat).sum
theorem sum_le:∀{a b:List Int},a.length=b.length→(∀i:Nat,i<b.length→0≤at_ a i∧at_ a i≤at_ b i)→sumV a≤sumV b∧(sumV a=sumV b→a=b):=by
 intro a
 induction a with
 | nil=>intro b hl _;cases b with
  | nil=>exact⟨Nat.le_refl _,fun _=>rfl⟩
  | cons _ _=>cases hl
 | cons x a ih=>
  intro b hl h
  cases b with
  | nil=>cases hl
  | cons y b=>
   have h0:=h 0 (by simp)
   rw[at_nat,at_nat] at h0
   simp only[List.getElem?_cons_zero,Option.getD_some] at h0
   obtain⟨i1,i2⟩:=ih (b:=b) (by simpa using hl) (fun i hi=>by
    have:=h (i+1) (by simpa using hi)
    rw[at_nat,at_nat] at this ⊢
    simpa using this)
   unfold sumV at i1 i2 ⊢
   rw[List.map_cons,List.map_cons,List.sum_cons,List.sum_cons]
   refine⟨by omega,fun e=>?_⟩
   rw[i2 (by omega),show x=y by omega]
theorem greatest {es:List Ed} {M:Nat} {s:Int} (hw:Within es M) (hs0:0≤s) (hs1:s<M):∀(k:Nat) (l:List Int),sumV l≤k→Good M s l→(∀F,Feas es M s F→LeV M F l)→∃D,Good M s D∧Feas es M s D∧∀F,Feas es M s F→LeV M F D:=by
 intro k
 induction k with
 | zero=>
  intro l hk hg hF
  have hgood:∀p:List Ed,(∀e∈p,e∈es)→∀l,Good M s l→Good M s (p.foldl step l):=fun p=>by
   induction p with
   | nil=>intro _ l h;exact h
   | cons x p ih=>intro hm l h;exact ih (fun e he=>hm e (List.mem_cons_of_mem _ he)) _ (good_step hw hs0 hs1 h (hm x (by simp)))
  obtain⟨h1,h2⟩:=fold_fix hw hs0 hs1 es l (fun _ h=>h) hg.len
  have hgr:=hgood es (fun _ h=>h) l hg
  have hsum:=sum_le (a:=es.foldl step l) (b:=l) (by rw[hgr.len,hg.len]) (fun i hi=>⟨(hgr.rng i (by rw[←hg.len];exact hi)).1,h1 i (by rw[←hg.len];exact hi)⟩)
  have heq:=hsum.2 (by omega)
  refine⟨l,hg,⟨hg.len,by rw[hg.src];exact Int.le_refl _,fun i hi=>(hg.rng i hi).2,h2 (by rw[heq];exact fun i _=>Int.le_refl _)⟩,hF⟩
 | succ k ih=>
  intro l hk hg hF
  have hgood:∀p:List Ed,(∀e∈p,e∈es)→∀l,Good M s l→Good M s (p.foldl step l):=fun p=>by
   induction p with
   | nil=>intro _ l h;exact h
   | cons x p ih=>intro hm l h;exact ih (fun e he=>hm e (List.mem_cons_of_mem _ he)) _ (good_step hw hs0 hs1 h (hm x (by simp)))
  have hkeep:∀p:List Ed,(∀e∈p,e∈es)→∀l,Good M s l→(∀F,Feas es M s F→LeV M F l)→∀F,Feas es M s F→LeV M F (p.foldl step l):=fun p=>by
   induction p with
   | nil=>intro _ l _ h;exact h
   | cons x p ih=>intro hm l hg h;exact ih (fun e he=>hm e (List.mem_cons_of_mem _ he)) _ (good_step hw hs0 hs1 hg (hm x (by simp))) (fun F hF=>le_step hw hs0 hs1 hg.len hF (h F hF) (hm x (by simp)))
  obtain⟨h1,h2⟩:=fold_fix hw hs0 hs1 es l (fun _ h=>h) hg.len
  have hgr:=hgood es (fun _ h=>h) l hg
  have hsum:=sum_le (a:=es.foldl step l) (b:=l) (by rw[hgr.len,hg.len]) (fun i hi=>⟨(hgr.rng i (by rw[←hg.len];exact hi)).1,h1 i (by rw[←hg.len];exact hi)⟩)
  by_cases hlt:sumV (es.foldl step l)=sumV l
  ·have heq:=hsum.2 hlt
   refine⟨l,hg,⟨hg.len,by rw[hg.src];exact Int.le_refl _,fun i hi=>(hg.rng i hi).2,h2 (by rw[heq];exact fun i _=>Int.le_refl _)⟩,hF⟩
  exact ih (es.foldl step l) (by omega) hgr (hkeep es (fun _ h=>h) l hg hF)
theorem exists_D {es:List Ed} {M:Nat} {s:Int} (hw:Within es M) (hs0:0≤s) (hs1:s<M):∃D,Good M s D∧Feas es M s D∧∀F,Feas es M s F→LeV M F D:=
 greatest hw hs0 hs1 _ _ (Nat.le_refl _) (good_start hw hs0 hs1) (fun F hF=>feas_start hw hs0 hs1 hF)
def rowOf (M:Nat) (f:Nat→Int):List Int:=(List.range M).map f
theorem rowOf_at {M:Nat} (f:Nat→Int) {i:Nat} (h:i<M):at_ (rowOf M f) i=f i:=by
 rw[at_nat,rowOf,List.getElem?_map,List.getElem?_range h];rfl
def rowB (M:Nat) (f:Nat→Bool):List Bool:=(List.range M).map f
theorem rowB_at {M:Nat} (f:Nat→Bool) {i:Int} (h0:0≤i) (h:i<M):bat (rowB M f) i=f i.toNat:=by
 unfold bat
 rw[rowB,List.getElem?_map,List.getElem?_range (by omega)];rfl
theorem rowB_true {M:Nat} (f:Nat→Bool) {i:Int} (h:bat (rowB M f) i=true):i.toNat<M∧f i.toNat=true:=by
 unfold bat rowB at h
 by_cases hi:i.toNat<M
 ·rw[List.getElem?_map,List.getElem?_range hi] at h
  exact⟨hi,h⟩
 rw[List.getElem?_eq_none (by simp;omega)] at h
 cases h
theorem first_bat {es:List Ed} {M:Nat} {s:Int} (hw:Within es M) (hs0:0≤s) (hs1:s<M) (q:List Bool) (hq:q[s.toNat]?=some true):Le (first (M:Int) s) q:=fun i hi=>by
 unfold first at hi
 rcases (bat_set _ _ _).1 hi with ⟨h,_⟩ | h
 ·unfold bat;rw[h,hq];rfl
 unfold bat at h
 rw[List.getElem?_replicate] at h
 split at h <;> cases h
theorem attained {es:List Ed} {M:Nat} {s:Int} (hw:Within es M) (hs0:0≤s) (hs1:s<M) {D:List Int} (hg:Good M s D) (hD:Feas es M s D) (hmax:∀F,Feas es M s F→LeV M F D) {r:List Bool} (hr:Shut_ D es r) (hl:r.length=M) (hfirst:Le (first (M:Int) s) r) {i:Nat} (hi:i<M) (hfin:at_ D i<inf):bat r i=true:=by
 cases hb:bat r i with
 | true=>rfl
 | false=>
  have hsr:bat r s=true:=hfirst s (by unfold first;exact (bat_set _ _ _).2 (.inl ⟨rfl,by simp;omega⟩))
  have hF:Feas es M s (rowOf M fun j=>if bat r j=true then at_ D j else min (at_ D j+1) inf):=by
   refine⟨by simp[rowOf],?_,fun j hj=>?_,fun e he=>?_⟩
   ·rw[at_lt hs0,rowOf_at _ (by omega),←at_lt hs0,show ((s.toNat:Nat):Int)=s by omega,if_pos hsr,hg.src];exact Int.le_refl _
   ·rw[rowOf_at _ hj]
    have:=(hg.rng j hj).2
    split <;> omega
   obtain⟨w1,w2,w3,w4⟩:=hw e he
   rw[at_lt w3,rowOf_at _ (by omega),at_lt w1,rowOf_at _ (by omega),←at_lt w3,←at_lt w1,show ((e.1.toNat:Nat):Int)=e.1 by omega,show ((e.2.1.toNat:Nat):Int)=e.2.1 by omega]
   have hE:=hD.edge e he
   have r1:=hg.rng e.1.toNat (by omega)
   rw[←at_lt w1] at r1
   have d1:=dist_bounds e.2.2
   have r2:=dadd_rng (at_ D e.1) e.2.2
   have hm:dadd (at_ D e.1) e.2.2≤dadd (min (at_ D e.1+1) inf) e.2.2:=dadd_mono _ (by omega)
   cases h1:bat r e.1 with
   | true=>
    cases h2:bat r e.2.1 with
    | true=>
     simp only[eq_self_iff_true,if_true]
     exact hE
    | false=>
     simp only[eq_self_iff_true,if_true,Bool.false_eq_true,if_false]
     have hne:¬dadd (at_ D e.1) e.2.2=at_ D e.2.1:=fun h=>by
      have:=hr e he h1 h
      rw[h2] at this;cases this
     omega
   | false=>
    cases h2:bat r e.2.1 with
    | true=>
     simp only[eq_self_iff_true,if_true,Bool.false_eq_true,if_false]
     omega
    | false=>
     simp only[Bool.false_eq_true,if_false]
     rw[dadd_eq] at hE hm r2 ⊢
     have e1:dist (at_ D e.1)=at_ D e.1:=by unfold dist;unfold inf at r1;split <;> (try split) <;> omega
     have e2:dist (min (at_ D e.1+1) inf)=min (at_ D e.1+1) inf:=by unfold dist inf;unfold inf at r1;split <;> (try split) <;> omega
     rw[e2]
     rw[e1] at hE
     omega
  have:=hmax _ hF i hi
  rw[rowOf_at _ hi,hb,if_neg (by simp)] at this
  omega
theorem count_lt {es:List Ed} {M:Nat} {s:Int} (hw:Within es M) (hs0:0≤s) (hs1:s<M) (a b:Nat→Bool):∀n:Nat,(∀i,i<n→a i=true→b i=true)→((List.range n).countP a≤(List.range n).countP b)∧((∃i,i<n∧b i=true∧a i=false)→(List.range n).countP a<(List.range n).countP b):=by
 intro n
 induction n with
 | zero=>intro _;exact⟨Nat.le_refl _,fun⟨i,h,_⟩=>by omega⟩
 | succ n ih=>
  intro h
  obtain⟨i1,i2⟩:=ih (fun i hi=>h i (by omega))
  rw[List.range_succ,List.countP_append,List.countP_append,List.countP_singleton,List.countP_singleton]
  have hn:=h n (by omega)
  constructor
  ·cases ha:a n <;> cases hb:b n <;> simp_all <;> omega
  rintro ⟨i,hi,h1,h2⟩
  by_cases e:i=n
  ·subst e
   rw[h1,h2]
   simp only[if_true,Bool.false_eq_true,if_false]
   omega
  have:=i2 ⟨i,by omega,h1,h2⟩
  cases ha:a n <;> cases hb:b n <;> simp_all <;> omega
def unlike (D l:List Int) (i:Nat):Bool:=decide (at_ l i≠at_ D i)
theorem round_less {es:List Ed} {M:Nat} {s:Int} (hw:Within es M) (hs0:0≤s) (hs1:s<M) {D l:List Int} (hgD:Good M s D) (hD:Feas es M s D) (hmax:∀F,Feas es M s F→LeV M F D) (hg:Good M s l) (hl:LeV M D l) :
  Good M s (round es l)∧LeV M D (round es l)∧((List.range M).countP (unlike D (round es l))<(List.range M).countP (unlike D l)∨l=D):=by
 obtain⟨h1,h2,h3,h4⟩:=fold_all hw hs0 hs1 hD es l (fun _ h=>h) hg hl
 refine⟨h1,h2,?_⟩
 by_cases hc:∃e∈es,at_ l e.1=at_ D e.1∧dadd (at_ D e.1) e.2.2=at_ D e.2.1∧at_ l e.2.1≠at_ D e.2.1
 ·left
  obtain⟨e,he,g1,g2,g3⟩:=hc
  obtain⟨w1,w2,w3,w4⟩:=hw e he
  refine (count_lt hw hs0 hs1 _ _ M (fun i hi hu=>?_)).2 ⟨e.2.1.toNat,by omega,?_,?_⟩
  ·unfold unlike at hu ⊢
   simp only[decide_eq_true_eq] at hu ⊢
   intro e
   have a:=h2 i hi
   have b:=h3 i hi
   exact hu (Int.le_antisymm (by rw[←e];exact b) a)
  ·unfold unlike
   rw[←at_lt w3,←at_lt w3]
   exact decide_eq_true g3
  unfold unlike
  rw[←at_lt w3,←at_lt w3]
  exact decide_eq_false (fun h=>h (h4 e he g1 g2))
 right
 have hshut:Shut_ D es (rowB M fun i=>decide (at_ l i=at_ D i)):=fun e he a b=>by
  obtain⟨w1,w2,w3,w4⟩:=hw e he
  rw[rowB_at _ w1 w2,←at_lt w1,←at_lt w1] at a
  rw[rowB_at _ w3 w4,←at_lt w3,←at_lt w3]
  refine decide_eq_true ?_
  apply Classical.byContradiction
  intro hn
  exact hc ⟨e,he,by simpa using a,b,hn⟩
 refine ext_at (by rw[hg.len,hgD.len]) (fun i hi=>?_)
 have hi':i<M:=by rw[←hg.len];exact hi
 by_cases hfin:at_ D i<inf
 ·have:=attained hw hs0 hs1 hgD hD hmax hshut (by simp[rowB]) (first_bat hw hs0 hs1 _ (by
   rw[rowB,List.getElem?_map,List.getElem?_range (by omega)]
   simp only[Option.map_some]
   rw[←at_lt hs0,←at_lt hs0,hg.src,hgD.src,decide_eq_true rfl])) hi' hfin
  obtain⟨_,h⟩:=rowB_true _ this
  simpa using h
 have a:=hl i hi'
 have b:=(hg.rng i hi').2
 have c:=(hgD.rng i hi').2
 omega
theorem rounds_D {es:List Ed} {M:Nat} {s:Int} (hw:Within es M) (hs0:0≤s) (hs1:s<M) {D:List Int} (hgD:Good M s D) (hD:Feas es M s D) (hmax:∀F,Feas es M s F→LeV M F D):∀(n:Nat) (l:List Int),Good M s l→LeV M D l→(List.range M).countP (unlike D l)<n→roundsN es n l=D:=by
 have hfix:round es D=D:=by
  obtain⟨h1,h2,_⟩:=round_less hw hs0 hs1 hgD hD hmax hgD (fun i _=>Int.le_refl _)
  have h3:=(fold_fix hw hs0 hs1 es D (fun _ h=>h) hgD.len).1
  exact ext_at (by rw[h1.len,hgD.len]) (fun i hi=>Int.le_antisymm (h3 i (by rw[←h1.len];exact hi)) (h2 i (by rw[←h1.len];exact hi)))
 have hfixn:∀n,roundsN es n D=D:=fun n=>by
  induction n with
  | zero=>rfl
  | succ n ih=>rw[roundsN,hfix,ih]
 intro n
 induction n with
 | zero=>intro l _ _ h;omega
 | succ n ih=>
  intro l hg hl hc
  obtain⟨h1,h2,h3⟩:=round_less hw hs0 hs1 hgD hD hmax hg hl
  rcases h3 with h3 | rfl
  ·rw[roundsN]
   exact ih _ h1 h2 (by omega)
  exact hfixn _
def relaxedF (V:Int) (es:List Ed) (s:Int):List Int:=roundsN es V.toNat (start0 V.toNat s)
theorem viol_false {vals:List Int} {es:List Ed}:viol vals es=false↔∀e∈es,at_ vals e.2.1≤dadd (at_ vals e.1) e.2.2:=by
 unfold viol
 rw[List.any_eq_false]
 constructor
 ·intro h e he
  have:=h e he
  simpa using this
 intro h e he
 have:=h e he
 simpa using this
theorem last_all (vals:List Int) (r:List Bool):lastOk vals r 0=true↔∀i:Nat,i<vals.length→lastAt vals r i=true:=by
 unfold lastOk
 rw[List.all_eq_true]
 constructor
 ·intro h i hi
  have:=h i (by simpa using hi)
  rw[Nat.zero_add] at this
  exact this
 intro h i hi
 rw[Nat.zero_add]
 exact h i (by simpa using hi)
theorem lastAt_iff {vals:List Int} {r:List Bool} {i:Nat}:lastAt vals r i=true↔0≤at_ vals i∧at_ vals i≤inf∧(at_ vals i<inf→bat r i=true):=by
 unfold lastAt inf
 rw[Bool.and_eq_true,Bool.and_eq_true,Bool.or_eq_true,decide_eq_true_eq,decide_eq_true_eq]
 simp only[Bool.not_eq_true',decide_eq_false_iff_not]
 constructor
 ·rintro ⟨⟨a,b⟩,c⟩
  exact⟨a,b,fun h=>c.resolve_left (fun g=>g h)⟩
 rintro ⟨a,b,c⟩
 refine⟨⟨a,b⟩,?_⟩
 by_cases h:at_ vals i<4611686018427387904
 ·exact .inr (c h)
 exact .inl h
theorem tight_one (V:Int) (es:List Ed) (s:Int) (hc:checkF V es=0) (h0:0≤s) (h1:s<V) (X:List Int):tightF V es s X=true↔X=relaxedF V es s:=by
 obtain⟨hV1,hV2,_⟩:=checkF_zero hc
 obtain⟨M,rfl⟩:=Int.eq_ofNat_of_zero_le (show 0≤V by omega)
 have hw:=within_of hc
 rw[Int.toNat_natCast] at hw
 obtain⟨D,hgD,hD,hmax⟩:=exists_D hw h0 h1
 have hrel:relaxedF (M:Int) es s=D:=by
  unfold relaxedF
  rw[Int.toNat_natCast]
  have hs:=good_start hw h0 h1
  refine rounds_D hw h0 h1 hgD hD hmax M _ hs (feas_start hw h0 h1 hD) ?_
  have hle:(List.range M).countP (unlike D (start0 M s))<(List.range M).countP (fun _=>true):=(count_lt hw h0 h1 _ _ M (fun _ _ _=>rfl)).2 ⟨s.toNat,by omega,rfl,by
   unfold unlike
   rw[←at_lt h0,←at_lt h0,hs.src,hgD.src];rfl⟩
  rw[List.countP_true,List.length_range] at hle
  exact hle
 rw[hrel,tight_eq]
 unfold rtightF
 have hcnt:=first_cnt (M:Int) s h0 h1
 rw[Int.toNat_natCast] at hcnt ⊢
 constructor
 ·intro h
  split at h
  ·rename_i hcond
   obtain⟨_,_,_,hlen,hsrc⟩:=hcond
   have hXl:X.length=M:=by omega
   rw[Bool.and_eq_true] at h
   obtain⟨hv,hlast⟩:=h
   have hv':=viol_false.1 (by simpa using hv)
   obtain⟨a,b,c,d⟩:=rounds_spec X es M hw M (first (M:Int) s) (by rw[first_len,Int.toNat_natCast]) hcnt
   have hla:=(last_all X _).1 hlast
   have hFX:Feas es M s X:=⟨hXl,by rw[hsrc];exact Int.le_refl _,fun i hi=>(lastAt_iff.1 (hla i (by omega))).2.1,hv'⟩
   have hXD:=hmax X hFX
   refine ext_at (by rw[hXl,hgD.len]) (fun i hi=>Int.le_antisymm (hXD i (by omega)) ?_)
   have hq:Shut_ X es (rowB M fun i=>decide (at_ D i≤at_ X i)):=fun e he ha hb=>by
    obtain⟨w1,w2,w3,w4⟩:=hw e he
    rw[rowB_at _ w1 w2,←at_lt w1,←at_lt w1] at ha
    rw[rowB_at _ w3 w4,←at_lt w3,←at_lt w3]
    refine decide_eq_true ?_
    have h1:=hD.edge e he
    have h2:=dadd_mono e.2.2 (of_decide_eq_true ha)
    omega
   have hrq:=d _ hq (first_bat hw h0 h1 _ (by
    rw[rowB,List.getElem?_map,List.getElem?_range (by omega)]
    simp only[Option.map_some]
    rw[←at_lt h0,←at_lt h0,hsrc,hgD.src,decide_eq_true (Int.le_refl _)]))
   obtain⟨l1,l2,l3⟩:=lastAt_iff.1 (hla i hi)
   by_cases hfin:at_ X i<inf
   ·have:=hrq _ (l3 hfin)
    obtain⟨_,h⟩:=rowB_true _ this
    simpa using h
   have:=(hgD.rng i (by omega)).2
   omega
  cases h
 rintro rfl
 rw[if_pos ⟨hc,h0,h1,by rw[hgD.len],hgD.src⟩,Bool.and_eq_true]
 obtain⟨a,b,c,d⟩:=rounds_spec X es M hw M (first (M:Int) s) (by rw[first_len,Int.toNat_natCast]) hcnt
 refine⟨by rw[viol_false.2 hD.edge];rfl,(last_all _ _).2 fun i hi=>lastAt_iff.2 ?_⟩
 have hi':i<M:=by rw[←hgD.len];exact hi
 exact⟨(hgD.rng i hi').1,(hgD.rng i hi').2,fun hfin=>attained hw h0 h1 hgD hD hmax a b c hi' hfin⟩
theorem at_set (l:List Int) (k x:Nat) (v:Int) (hk:k<l.length):at_ (l.set k v) (x:Int)=if x=k then v else at_ l (x:Int):=by
 rw[at_nat,at_nat,List.getElem?_set]
 by_cases h:k=x
 ·subst h;simp[hk]
 rw[if_neg h,if_neg (fun g=>h g.symm)]
def negs (l:List Int):Nat:=l.countP (fun x=>decide (x<0))
theorem negs_le (l:List Int):negs l≤l.length:=List.countP_le_length
theorem negs_set {l:List Int} {x:Nat} {v:Int} (hx:x<l.length) (hn:at_ l (x:Int)<0) (hv:0≤v):negs (l.set x v)+1=negs l:=by
 have hget:l[x]<0:=by rw[at_nat,List.getElem?_eq_getElem hx] at hn;exact hn
 have hpos:0<negs l:=List.countP_pos_iff.2 ⟨l[x],List.getElem_mem hx,by simpa using hget⟩
 unfold negs at *
 rw[List.countP_set hx]
 simp only[hget,decide_true,if_true]
 rw[if_neg (by simpa using hv)]
 omega
structure DocO (es:List Ed) (n v:Nat) (l:List Int):Prop where
 len:l.length=n
 val:∀x:Nat,x<n→at_ l (x:Int)=-1∨∃k:Nat,at_ l (x:Int)=(k:Int)∧k<v∧k≤x∧Conn es x k
 old:∀x:Nat,x<n→x<v→at_ l (x:Int)≠-1
 edge:∀e∈es,at_ l e.1=at_ l e.2.1
structure DocI (es:List Ed) (n v:Nat) (l0 l:List Int) (todo:List Nat):Prop where
 len:l.length=n
 mem:∀x∈todo,x<n∧at_ l0 (x:Int)=-1∧Conn es x v∧v≤x∧at_ l (x:Int)=(v:Int)
 oth:∀x:Nat,x<n→x∉todo→at_ l (x:Int)=at_ l0 (x:Int)
def Done (todo:List Nat) (y:Nat) (e:Ed):Prop:=(e.1.toNat=y→e.2.1.toNat∈todo)∧(e.2.1.toNat=y→e.1.toNat∈todo)
def Prog (es:List Ed) (todo:List Nat) (i k:Nat):Prop:=(∀j y,j<i→todo[j]?=some y→∀e∈es,Done todo y e)∧∀y,todo[i]?=some y→∀e∈es.take k,Done todo y e
theorem Done.more {todo:List Nat} {y:Nat} {e:Ed} (h:Done todo y e) (x:Nat):Done (todo ++ [x]) y e:=⟨fun q=>List.mem_append_left _ (h.1 q),fun q=>List.mem_append_left _ (h.2 q)⟩
theorem Prog.more {es:List Ed} {todo:List Nat} {i k:Nat} (h:Prog es todo i k) (hi:i<todo.length) (x:Nat):Prog es (todo ++ [x]) i k:=by
 refine⟨fun j y hj hy e he=>(h.1 j y hj ?_ e he).more x,fun y hy e he=>(h.2 y ?_ e he).more x⟩
 ·rwa [List.getElem?_append_left (by omega)] at hy
 rwa [List.getElem?_append_left hi] at hy
theorem Prog.first (es:List Ed) (v:Nat):Prog es [v] 0 0:=⟨fun j y hj=>absurd hj (Nat.not_lt_zero _),fun y _ e he=>by simp at he⟩
theorem Prog.step {es:List Ed} {todo:List Nat} {i k y:Nat} {e:Ed} (h:Prog es todo i k) (he:es[k]?=some e) (hy:todo[i]?=some y) (hd:Done todo y e):Prog es todo i (k+1):=by
 refine⟨h.1,fun z hz x hx=>?_⟩
 obtain rfl:y=z:=by rw[hy] at hz;injection hz
 rw[List.take_add_one,he] at hx
 rcases List.mem_append.1 hx with hx | hx
 ·exact h.2 y hy x hx
 rw[show x=e by simpa using hx];exact hd
theorem Prog.next {es:List Ed} {todo:List Nat} {i:Nat} (h:Prog es todo i es.length):Prog es todo (i+1) 0:=by
 refine⟨fun j y hj hy e he=>?_,fun y hy e he=>by simp at he⟩
 by_cases hji:j=i
 ·subst hji;exact h.2 y hy e (by rw[List.take_length];exact he)
 exact h.1 j y (by omega) hy e he
section
variable {es:List Ed} {n v:Nat} {l0 l:List Int} {todo:List Nat}
theorem DocO.zero (hw:Within es n):DocO es n 0 (List.replicate n (-1)):=by
 have h:∀x:Nat,x<n→at_ (List.replicate n (-1)) (x:Int)=-1:=fun x hx=>by
  rw[at_nat,List.getElem?_replicate,if_pos hx];rfl
 refine⟨by simp,fun x hx => .inl (h x hx),fun x _ hx=>absurd hx (Nat.not_lt_zero _),fun e he=>?_⟩
 obtain⟨h1,h2,h3,h4⟩:=hw e he
 rw[at_lt h1,at_lt h3,h _ (by omega),h _ (by omega)]
theorem DocO.skip (h:DocO es n v l) (hv:¬at_ l (v:Int)<0):DocO es n (v+1) l:=by
 refine⟨h.len,fun x hx=>(h.val x hx).imp_right (fun⟨k,h1,h2,h3⟩=>⟨k,h1,by omega,h3⟩),fun x hx hxv=>?_,h.edge⟩
 by_cases e:x=v
 ·subst e;omega
 exact h.old x hx (by omega)
theorem DocO.neg (h:DocO es n v l0) {x:Nat} (hx:x<n) (hn:at_ l0 (x:Int)<0):at_ l0 (x:Int)=-1∧v≤x:=by
 rcases h.val x hx with h1 | ⟨k,h1,_⟩
 ·refine⟨h1,?_⟩
  rcases Nat.lt_or_ge x v with h2 | h2
  ·exact absurd h1 (h.old x hx h2)
  exact h2
 omega
theorem DocI.first (h:DocO es n v l0) (hv:v<n) (hn:at_ l0 (v:Int)<0):DocI es n v l0 (l0.set v (v:Int)) [v]:=by
 refine⟨by rw[List.length_set];exact h.len,fun x hx=>?_,fun x hx hm=>?_⟩
 ·obtain rfl:x=v:=by simpa using hx
  exact⟨hv,(h.neg hv hn).1,.refl,Nat.le_refl _,by rw[at_set _ _ _ _ (by rw[h.len];exact hv),if_pos rfl]⟩
 rw[at_set _ _ _ _ (by rw[h.len];exact hv),if_neg (by simpa using hm)]
theorem DocI.push (h0:DocO es n v l0) (h:DocI es n v l0 l todo) {x:Nat} (hx:x<n) (hn:at_ l (x:Int)<0) (hc:Conn es x v):DocI es n v l0 (l.set x (v:Int)) (todo ++ [x]):=by
 have hnm:x∉todo:=fun hm=>by have:=(h.mem x hm).2.2.2.2;omega
 have hl:=h.oth x hx hnm
 rw[hl] at hn
 have hk:=h0.neg hx hn
 have hlx:x<l.length:=by rw[h.len];exact hx
 refine⟨by rw[List.length_set];exact h.len,fun y hy=>?_,fun y hy hm=>?_⟩
 ·rcases List.mem_append.1 hy with hy | hy
  ·obtain⟨q1,q2,q3,q4,q5⟩:=h.mem y hy
   refine⟨q1,q2,q3,q4,?_⟩
   rw[at_set _ _ _ _ hlx]
   split
   ·rfl
   exact q5
  obtain rfl:y=x:=by simpa using hy
  exact⟨hx,hk.1,hc,hk.2,by rw[at_set _ _ _ _ hlx,if_pos rfl]⟩
 rw[at_set _ _ _ _ hlx,if_neg (fun e=>hm (List.mem_append_right _ (by simp[e])))]
 exact h.oth y hy (fun g=>hm (List.mem_append_left _ g))
theorem DocI.have1 (h0:DocO es n v l0) (h:DocI es n v l0 l todo) (hw:Within es n) {e:Ed} (he:e∈es) (ha:e.1.toNat∈todo) (hb:¬at_ l e.2.1<0):e.2.1.toNat∈todo:=by
 obtain⟨w1,w2,w3,w4⟩:=hw e he
 apply Classical.byContradiction
 intro hm
 have h1:=h.oth _ (show e.2.1.toNat<n by omega) hm
 have h2:=(h.mem _ ha).2.1
 have h3:=h0.edge e he
 rw[at_lt w1,at_lt w3,h2] at h3
 rw[←h3,←at_lt w3] at h1
 omega
theorem DocI.have2 (h0:DocO es n v l0) (h:DocI es n v l0 l todo) (hw:Within es n) {e:Ed} (he:e∈es) (ha:e.2.1.toNat∈todo) (hb:¬at_ l e.1<0):e.1.toNat∈todo:=by
 obtain⟨w1,w2,w3,w4⟩:=hw e he
 apply Classical.byContradiction
 intro hm
 have h1:=h.oth _ (show e.1.toNat<n by omega) hm
 have h2:=(h.mem _ ha).2.1
 have h3:=h0.edge e he
 rw[at_lt w1,at_lt w3,h2] at h3
 rw[h3,←at_lt w1] at h1
 omega
theorem DocI.finish (h0:DocO es n v l0) (h:DocI es n v l0 l todo) (hw:Within es n) (hv:v∈todo) (hp:Prog es todo todo.length 0):DocO es n (v+1) l:=by
 have hall:∀y∈todo,∀e∈es,Done todo y e:=fun y hy e he=>by
  obtain⟨j,hj,rfl⟩:=List.getElem_of_mem hy
  exact hp.1 j _ hj (List.getElem?_eq_getElem hj) e he
 refine⟨h.len,fun x hx=>?_,fun x hx hxv=>?_,fun e he=>?_⟩
 ·by_cases hm:x∈todo
  ·obtain⟨_,_,q3,q4,q5⟩:=h.mem x hm
   exact .inr ⟨v,q5,by omega,q4,q3⟩
  rw[h.oth x hx hm]
  exact (h0.val x hx).imp_right (fun⟨k,h1,h2,h3⟩=>⟨k,h1,by omega,h3⟩)
 ·by_cases hm:x∈todo
  ·rw[(h.mem x hm).2.2.2.2];omega
  rw[h.oth x hx hm]
  have:x≠v:=fun e=>hm (e ▸ hv)
  exact h0.old x hx (by omega)
 obtain⟨w1,w2,w3,w4⟩:=hw e he
 have d:=h0.edge e he
 rw[at_lt w1,at_lt w3] at d ⊢
 by_cases hm:e.1.toNat∈todo
 ·have hm2:=(hall _ hm e he).1 rfl
  rw[(h.mem _ hm).2.2.2.2,(h.mem _ hm2).2.2.2.2]
 have hm2:e.2.1.toNat∉todo:=fun g=>hm ((hall _ g e he).2 rfl)
 rw[h.oth _ (by omega) hm,h.oth _ (by omega) hm2,d]
theorem DocO.lab (h:DocO es n n l) (hw:Within es n):l=(List.range n).map (fun x=>((labF es x:Nat):Int)):=by
 have hk:∀x:Nat,x<n→∃k:Nat,at_ l (x:Int)=(k:Int)∧k≤x∧Conn es x k:=fun x hx=>by
  rcases h.val x hx with h1 | ⟨k,h1,_,h3,h4⟩
  ·exact absurd h1 (h.old x hx hx)
  exact⟨k,h1,h3,h4⟩
 have hok:LabOk es n (fun x=>(at_ l (x:Int)).toNat):=by
  refine⟨fun e he=>?_,fun x hx=>?_,fun x hx=>?_⟩
  ·obtain⟨w1,w2,w3,w4⟩:=hw e he
   have d:=h.edge e he
   rw[at_lt w1,at_lt w3] at d
   simp only[d]
  ·obtain⟨k,h1,h2,_⟩:=hk x hx
   simp only[h1,Int.toNat_natCast];exact h2
  obtain⟨k,h1,_,h3⟩:=hk x hx
  simp only[h1,Int.toNat_natCast];exact h3
 apply ext_at (by simp[h.len])
 intro x hx
 rw[h.len] at hx
 obtain⟨k,h1,_⟩:=hk x hx
 rw[at_nat ((List.range n).map _),List.getElem?_map,List.getElem?_range hx]
 have:=hok.unique (lab_ok hw) hx
 simp only[h1,Int.toNat_natCast] at this
 rw[h1,this];rfl
end
abbrev Sp:=Int×Int
def key (d:List Sp) (k:Nat):Int:=((d[k]?).getD (0,0)).2
def HeapO (d:List Sp):Prop:=∀k,0<k→k<d.length→key d ((k-1) / 2)≤key d k
theorem key_get {d:List Sp} {k:Nat} {x:Sp} (h:d[k]?=some x):key d k=x.2:=by unfold key;rw[h];rfl
theorem key_swap {d:List Sp} {i j:Nat} {x y:Sp} (hx:d[i]?=some x) (hy:d[j]?=some y) (hij:i≠j) (k:Nat) :
  key ((d.set i y).set j x) k=if k=j then key d i else if k=i then key d j else key d k:=by
 have hi:=(List.getElem?_eq_some_iff.1 hx).1
 have hj:=(List.getElem?_eq_some_iff.1 hy).1
 rw[key_get hx,key_get hy]
 unfold key
 rw[List.getElem?_set]
 by_cases h1:j=k
 ·subst h1;rw[if_pos rfl,if_pos (by simpa using hj),if_pos rfl];rfl
 rw[if_neg h1,if_neg (Ne.symm h1),List.getElem?_set]
 by_cases h2:i=k
 ·subst h2;rw[if_pos rfl,if_pos hi,if_pos rfl];rfl
 rw[if_neg h2,if_neg (Ne.symm h2)]
theorem swap_perm {d:List Sp} {i j:Nat} {x y:Sp} (hx:d[i]?=some x) (hy:d[j]?=some y):((d.set i y).set j x).Perm d:=by
 obtain⟨hi,rfl⟩:=List.getElem?_eq_some_iff.1 hx
 obtain⟨hj,rfl⟩:=List.getElem?_eq_some_iff.1 hy
 exact List.set_set_perm hi hj
theorem heap_min {d:List Sp} (h:HeapO d):∀k,k<d.length→key d 0≤key d k:=fun k=>by
 induction k using Nat.strongRecOn with
 | _ k ih=>
  intro hk
  by_cases h0:k=0
  ·subst h0;exact Int.le_refl _
  exact Int.le_trans (ih ((k-1) / 2) (by omega) (by omega)) (h k (by omega) hk)
structure UpInv (d:List Sp) (j:Nat):Prop where
 one:∀k,0<k→k<d.length→k≠j→key d ((k-1) / 2)≤key d k
 two:∀k,0<k→k<d.length→(k-1) / 2=j→0<j→key d ((j-1) / 2)≤key d k
theorem UpInv.step {d:List Sp} {i j:Nat} {x y:Sp} (h:UpInv d j) (hj:0<j) (hi:i=(j-1) / 2) (hx:d[i]?=some x) (hy:d[j]?=some y) (hlt:y.2<x.2):UpInv ((d.set i y).set j x) i:=by
 have hs:=key_swap hx hy (by omega)
 have kx:=key_get hx
 have ky:=key_get hy
 have hjl:=(List.getElem?_eq_some_iff.1 hy).1
 have hl:((d.set i y).set j x).length=d.length:=by simp
 constructor
 ·intro k hk hkl hki
  rw[hl] at hkl
  rw[hs,hs]
  by_cases h1:k=j
  ·subst h1
   rw[if_pos rfl,if_neg (by omega),if_pos (by omega)];omega
  have a1:=h.one k hk hkl h1
  rw[if_neg h1,if_neg hki]
  by_cases h2:(k-1) / 2=j
  ·rw[if_pos h2,hi];exact h.two k hk hkl h2 hj
  rw[if_neg h2]
  by_cases h3:(k-1) / 2=i
  ·rw[if_pos h3];rw[h3] at a1;omega
  rw[if_neg h3];exact a1
 intro k hk hkl hki hi0
 rw[hl] at hkl
 have a0:=h.one i hi0 (by omega) (by omega)
 rw[hs,hs,if_neg (by omega),if_neg (by omega)]
 by_cases h1:k=j
 ·rw[if_pos h1];exact a0
 rw[if_neg h1,if_neg (by omega)]
 have a1:=h.one k hk hkl h1
 rw[hki] at a1
 exact Int.le_trans a0 a1
theorem UpInv.stop {d:List Sp} {j:Nat} (h:UpInv d j) (hs:j=0∨¬key d j<key d ((j-1) / 2)):HeapO d:=fun k hk hkl=>by
 by_cases h1:k=j
 ·subst h1
  rcases hs with h2 | h2 <;> omega
 exact h.one k hk hkl h1
theorem UpInv.push {d:List Sp} (h:HeapO d) (x:Sp):UpInv (d ++ [x]) d.length:=by
 have hk:∀k,k<d.length→key (d ++ [x]) k=key d k:=fun k hk=>by unfold key;rw[List.getElem?_append_left hk]
 constructor
 ·intro k h0 hkl hne
  rw[List.length_append,List.length_singleton] at hkl
  rw[hk _ (by omega),hk _ (by omega)]
  exact h k h0 (by omega)
 intro k h0 hkl hp hd
 rw[List.length_append,List.length_singleton] at hkl
 omega
structure DownInv (d:List Sp) (i:Nat):Prop where
 one:∀k,0<k→k<d.length→(k-1) / 2≠i→key d ((k-1) / 2)≤key d k
 two:∀k,0<k→k<d.length→(k-1) / 2=i→0<i→key d ((i-1) / 2)≤key d k
theorem DownInv.step {d:List Sp} {i j:Nat} {x y:Sp} (h:DownInv d i) (hj:0<j) (hi:(j-1) / 2=i) (hx:d[i]?=some x) (hy:d[j]?=some y) (hlt:y.2<x.2)
  (hm:∀k,0<k→k<d.length→(k-1) / 2=i→key d j≤key d k):DownInv ((d.set i y).set j x) j:=by
 have hs:=key_swap hx hy (by omega)
 have kx:=key_get hx
 have ky:=key_get hy
 have hjl:=(List.getElem?_eq_some_iff.1 hy).1
 have hl:((d.set i y).set j x).length=d.length:=by simp
 constructor
 ·intro k hk hkl hkj
  rw[hl] at hkl
  rw[hs,hs,if_neg hkj]
  by_cases h1:k=j
  ·subst h1
   rw[if_pos rfl,if_pos hi];omega
  rw[if_neg h1]
  by_cases h2:k=i
  ·subst h2
   rw[if_pos rfl,if_neg (by omega)];exact h.two j hj hjl hi hk
  rw[if_neg h2]
  by_cases h3:(k-1) / 2=i
  ·rw[if_pos h3];exact hm k hk hkl h3
  rw[if_neg h3];exact h.one k hk hkl h3
 intro k hk hkl hkj _
 rw[hl] at hkl
 have a1:=h.one k hk hkl (by omega)
 rw[hkj] at a1
 rw[hs,hs,if_neg (by omega),if_pos (by omega),if_neg (by omega),if_neg (by omega)]
 exact a1
theorem DownInv.stop {d:List Sp} {i:Nat} (h:DownInv d i) (hs:∀k,0<k→k<d.length→(k-1) / 2=i→key d i≤key d k):HeapO d:=fun k hk hkl=>by
 by_cases h1:(k-1) / 2=i
 ·rw[h1];exact hs k hk hkl h1
 exact h.one k hk hkl h1
theorem DownInv.first {d:List Sp} {y:Sp} (h:HeapO (d ++ [y])) (x:Sp) (d':List Sp) (hd:d'=d.set 0 y):DownInv d' 0:=by
 subst hd
 have hk:∀k,k≠0→k<d.length→key (d.set 0 y) k=key (d ++ [y]) k:=fun k h0 hk=>by
  unfold key
  rw[List.getElem?_append_left hk,List.getElem?_set,if_neg (by omega)]
 constructor
 ·intro k h0 hkl hne
  rw[List.length_set] at hkl
  rw[hk _ hne (by omega),hk _ (by omega) hkl]
  exact h k h0 (by simp;omega)
 intro k _ _ _ h0;omega
theorem dadd_ge {a:Int} (b:Int) (h0:0≤a) (h1:a≤inf):a≤dadd a b:=by
 have hb:=(dist_bounds b).1
 have ha:dist a=a:=by unfold dist;unfold inf at h1;rw[if_neg (by omega),if_neg (by omega)]
 rw[dadd_eq,ha];omega
theorem dadd_inf (b:Int):dadd inf b=inf:=by
 have h:=dadd_ge b (show 0≤inf by unfold inf;omega) (Int.le_refl _)
 have h2:=(dadd_rng inf b).2
 omega
theorem fin_relaxed {es:List Ed} {V s:Int} {l:List Int} (hc:checkF V es=0) (h0:0≤s) (h1:s<V) (hg:Good V.toNat s l) (hF:Feas es V.toNat s l) (hlow:∀F,Feas es V.toNat s F→LeV V.toNat F l):l=relaxedF V es s:=by
 obtain⟨hV1,hV2,_⟩:=checkF_zero hc
 obtain⟨M,rfl⟩:=Int.eq_ofNat_of_zero_le (show 0≤V by omega)
 have hw:=within_of hc
 rw[Int.toNat_natCast] at hw hg hF hlow
 obtain⟨D,hgD,hD,hmax⟩:=exists_D hw h0 h1
 have hrel:relaxedF (M:Int) es s=D:=by
  unfold relaxedF
  rw[Int.toNat_natCast]
  have hs:=good_start hw h0 h1
  refine rounds_D hw h0 h1 hgD hD hmax M _ hs (feas_start hw h0 h1 hD) ?_
  have hle:(List.range M).countP (unlike D (start0 M s))<(List.range M).countP (fun _=>true):=(count_lt hw h0 h1 _ _ M (fun _ _ _=>rfl)).2 ⟨s.toNat,by omega,rfl,by
   unfold unlike
   rw[←at_lt h0,←at_lt h0,hs.src,hgD.src];rfl⟩
  rw[List.countP_true,List.length_range] at hle
  exact hle
 rw[hrel]
 refine ext_at (by rw[hg.len,hgD.len]) (fun i hi=>?_)
 have hi':i<M:=by rw[←hg.len];exact hi
 exact Int.le_antisymm (hmax l hF i hi') (hlow D hD i hi')
theorem step_lt {l:List Int} {e:Ed} (h:dadd (at_ l e.1) e.2.2<at_ l e.2.1):step l e=l.set e.2.1.toNat (dadd (at_ l e.1) e.2.2):=by
 unfold step
 rw[take_min _ _ (dadd_rng _ _).1,show min (at_ l e.2.1) (dadd (at_ l e.1) e.2.2)=dadd (at_ l e.1) e.2.2 by omega]
structure DI (es:List Ed) (M:Nat) (s:Int) (l:List Int) (h:List Sp) (S:Nat→Bool) (rest:List Ed) (m:Int):Prop where
 good:Good M s l
 low:∀F,Feas es M s F→LeV M F l
 heap:HeapO h
 nod:h.Nodup
 spot:∀x∈h,∃v:Nat,x.1=(v:Int)∧v<M∧at_ l (v:Int)≤x.2∧x.2≤inf∧(S v=true→at_ l (v:Int)<x.2)
 ord:∀x∈h,m≤x.2
 set_:∀v,v<M→S v=true→at_ l (v:Int)≤m
 reach:∀v,v<M→S v=false→at_ l (v:Int)<inf→((v:Int),at_ l (v:Int))∈h
 done:∀e∈es,S e.1.toNat=true→e∈rest∨at_ l e.2.1≤dadd (at_ l e.1) e.2.2
 cnt:h.length+es.countP (fun e=>!S e.1.toNat)+rest.length≤1+es.length
section
variable {es:List Ed} {M:Nat} {s:Int} {l:List Int} {h h':List Sp} {S:Nat→Bool} {rest:List Ed} {m:Int}
theorem DI.start (hw:Within es M) (h0:0≤s) (h1:s<M):DI es M s (start0 M s) [(s,0)] (fun _=>false) [] 0:=by
 have hs:=good_start hw h0 h1
 refine⟨hs,fun F hF=>feas_start hw h0 h1 hF,fun k hk hkl=>?_,by simp,fun x hx=>?_,fun x hx=>?_,fun v _ h=>(by cases h),fun v hv _ hlt=>?_,fun e _ h=>(by cases h),?_⟩
 ·simp at hkl;omega
 ·obtain rfl:x=(s,0):=by simpa using hx
  refine⟨s.toNat,by simp;omega,by omega,?_,by show (0:Int)≤inf;unfold inf;omega,fun h=>(by cases h)⟩
  rw[←at_lt h0,hs.src];exact Int.le_refl _
 ·obtain rfl:x=(s,0):=by simpa using hx
  exact Int.le_refl _
 ·rw[at_nat,start0,List.getElem?_map,List.getElem?_range hv] at hlt ⊢
  have hlt':startOf (v:Int) s<inf:=hlt
  show ((v:Int),startOf (v:Int) s)∈[(s,(0:Int))]
  unfold startOf at hlt' ⊢
  by_cases hvs:(v:Int)=s
  ·rw[if_pos hvs,hvs];simp
  rw[if_neg hvs] at hlt';unfold inf at hlt';omega
 simp only[Bool.not_false,List.countP_true,List.length_singleton,List.length_nil];omega
theorem DI.skip {x:Sp} (hd:DI es M s l h S [] m) (hp:(h' ++ [x]).Perm h) (hH:HeapO h') (hv:at_ l x.1<x.2):DI es M s l h' S [] m:=by
 have hsub:∀y,y∈h'→y∈h:=fun y hy=>hp.mem_iff.1 (List.mem_append_left _ hy)
 have hnd:(h' ++ [x]).Nodup:=hp.nodup_iff.2 hd.nod
 refine⟨hd.good,hd.low,hH,(List.nodup_append.1 hnd).1,fun y hy=>hd.spot y (hsub y hy),fun y hy=>hd.ord y (hsub y hy),hd.set_,fun v hvM hS hlt=>?_,hd.done,?_⟩
 ·rcases List.mem_append.1 (hp.mem_iff.2 (hd.reach v hvM hS hlt)) with h1 | h1
  ·exact h1
  have e:((v:Int),at_ l (v:Int))=x:=by simpa using h1
  rw[←e] at hv
  exact absurd hv (Int.lt_irrefl _)
 have:=hd.cnt
 have hl:=hp.length_eq
 simp at hl
 omega
theorem count_settle (es:List Ed) (S:Nat→Bool) (v:Nat) (hw:Within es M) (hS:S v=false) :
  es.countP (fun e=>!(if e.1.toNat=v then true else S e.1.toNat))+(es.filter (fun e=>e.1 == (v:Int))).length=es.countP (fun e=>!S e.1.toNat):=by
 rw[←List.countP_eq_length_filter]
 induction es with
 | nil=>rfl
 | cons e es ih=>
  have ih:=ih (fun e he=>hw e (List.mem_cons_of_mem _ he))
  obtain⟨w1,_⟩:=hw e (by simp)
  rw[List.countP_cons,List.countP_cons,List.countP_cons]
  by_cases h:e.1.toNat=v
  ·have h2:e.1=(v:Int):=by omega
   have h3:(e.1 == (v:Int))=true:=by simp[h2]
   rw[if_pos h,h3,h,hS]
   simp only[Bool.not_true,Bool.not_false,if_true]
   rw[if_neg (by decide)]
   omega
  have h3:(e.1 == (v:Int))=false:=by simp;omega
  rw[if_neg h,h3]
  simp only[if_neg (show ¬(false=true) by decide)]
  omega
theorem DI.settle {x:Sp} {v:Nat} (hw:Within es M) (hd:DI es M s l h S [] m) (hx0:h[0]?=some x) (hp:(h' ++ [x]).Perm h) (hH:HeapO h') (hxv:x.1=(v:Int)) (hv:¬at_ l x.1<x.2) :
  v<M∧at_ l (v:Int)=x.2∧S v=false∧DI es M s l h' (fun u=>if u=v then true else S u) (es.filter (fun e=>e.1 == (v:Int))) x.2:=by
 have hxh:x∈h:=List.mem_of_getElem? hx0
 obtain⟨v',e1,hvM,hle,hinf,hSx⟩:=hd.spot x hxh
 obtain rfl:v'=v:=by omega
 rw[hxv] at hv
 have heq:at_ l (v':Int)=x.2:=by omega
 have hSv:S v'=false:=by
  cases h9:S v' with
  | false=>rfl
  | true=>have:=hSx h9;omega
 have hsub:∀y,y∈h'→y∈h:=fun y hy=>hp.mem_iff.1 (List.mem_append_left _ hy)
 have hnd:(h' ++ [x]).Nodup:=hp.nodup_iff.2 hd.nod
 have hxn:x∉h':=fun hx=>(List.nodup_append.1 hnd).2.2 x hx x (by simp) rfl
 have hmin:∀y∈h,x.2≤y.2:=fun y hy=>by
  obtain⟨k,hk,rfl⟩:=List.getElem_of_mem hy
  have:=heap_min hd.heap k hk
  rw[key_get hx0,key_get (List.getElem?_eq_getElem hk)] at this
  exact this
 refine⟨hvM,heq,hSv,hd.good,hd.low,hH,(List.nodup_append.1 hnd).1,fun y hy=>?_,fun y hy=>hmin y (hsub y hy),fun u hu hS=>?_,fun u hu hS hlt=>?_,fun e he hS=>?_,?_⟩
 ·obtain⟨u,f1,f2,f3,f4,f5⟩:=hd.spot y (hsub y hy)
  refine⟨u,f1,f2,f3,f4,fun hS=>?_⟩
  by_cases hu:u=v'
  ·subst hu
   rcases Int.lt_or_eq_of_le f3 with h1 | h1
   ·exact h1
   exact absurd (show y=x from Prod.ext (f1.trans hxv.symm) (by omega)) (fun e=>hxn (e ▸ hy))
  rw[if_neg hu] at hS;exact f5 hS
 ·by_cases huv:u=v'
  ·subst huv;omega
  rw[if_neg huv] at hS
  exact Int.le_trans (hd.set_ u hu hS) (hd.ord x hxh)
 ·by_cases huv:u=v'
  ·subst huv;simp at hS
  rw[if_neg huv] at hS
  rcases List.mem_append.1 (hp.mem_iff.2 (hd.reach u hu hS hlt)) with h1 | h1
  ·exact h1
  have e:((u:Int),at_ l (u:Int))=x:=by simpa using h1
  rw[←e] at hxv
  have:(u:Int)=(v':Int):=hxv
  omega
 ·obtain⟨w1,_⟩:=hw e he
  by_cases huv:e.1.toNat=v'
  ·exact .inl (List.mem_filter.2 ⟨he,by simp;omega⟩)
  rw[if_neg huv] at hS
  exact .inr ((hd.done e he hS).resolve_left (by simp))
 have h1:=hd.cnt
 have h2:=count_settle es S v' hw hSv
 have hl:=hp.length_eq
 simp only[List.length_append,List.length_singleton] at hl
 simp only[List.length_nil] at h1
 omega
theorem DI.pass {e:Ed} (hd:DI es M s l h S (e :: rest) m) (hge:¬dadd (at_ l e.1) e.2.2<at_ l e.2.1):DI es M s l h S rest m:=by
 refine⟨hd.good,hd.low,hd.heap,hd.nod,hd.spot,hd.ord,hd.set_,hd.reach,fun f hf hS=>?_,?_⟩
 ·rcases hd.done f hf hS with h1 | h1
  ·rcases List.mem_cons.1 h1 with rfl | h1
   ·exact .inr (by omega)
   exact .inl h1
  exact .inr h1
 have:=hd.cnt
 simp only[List.length_cons] at this
 omega
theorem DI.near {e:Ed} {t:Nat} {d:Int} (hw:Within es M) (h0:0≤s) (h1:s<M) (hd:DI es M s l h S (e :: rest) m) (hee:e∈es) (hm:at_ l e.1=m) (ht:e.2.1=(t:Int)) (hdd:dadd m e.2.2=d) (hlt:d<at_ l (t:Int))
  (hp:h'.Perm (h ++ [((t:Int),d)])) (hH:HeapO h'):DI es M s (l.set t d) h' S rest m∧(∀v:Nat,v<M→S v=true→at_ (l.set t d) (v:Int)=at_ l (v:Int)):=by
 obtain⟨w1,w2,w3,w4⟩:=hw e hee
 have htM:t<M:=by omega
 have hst:step l e=l.set t d:=by rw[step_lt (by rw[hm,hdd,ht];exact hlt),hm,hdd,ht,Int.toNat_natCast]
 have hat:∀u:Nat,at_ (l.set t d) (u:Int)=if u=t then d else at_ l (u:Int):=fun u=>at_set l t u d (by rw[hd.good.len];exact htM)
 have hle:∀u:Nat,at_ (l.set t d) (u:Int)≤at_ l (u:Int):=fun u=>by rw[hat];split <;> (try subst_vars) <;> omega
 have hmr:0≤m∧m≤inf:=by have:=hd.good.rng e.1.toNat (by omega);rw[←at_lt w1,hm] at this;exact this
 have hdm:m≤d:=by rw[←hdd];exact dadd_ge _ hmr.1 hmr.2
 have hdi:d≤inf:=by rw[←hdd];exact (dadd_rng _ _).2
 have hSt:S t=false:=by
  cases h9:S t with
  | false=>rfl
  | true=>have:=hd.set_ t htM h9;omega
 have hkeep:∀v:Nat,v<M→S v=true→at_ (l.set t d) (v:Int)=at_ l (v:Int):=fun v hv hS=>by
  rw[hat,if_neg (fun e=>by subst e;rw[hSt] at hS;cases hS)]
 refine⟨⟨hst ▸ good_step hw h0 h1 hd.good hee,fun F hF=>hst ▸ le_step hw h0 h1 hd.good.len hF (hd.low F hF) hee,hH,?_,fun y hy=>?_,fun y hy=>?_,fun v hv hS=>?_,fun v hv hS hl=>?_,fun f hf hS=>?_,?_⟩,hkeep⟩
 ·refine hp.nodup_iff.2 (List.nodup_append.2 ⟨hd.nod,by simp,fun a ha b hb=>?_⟩)
  obtain rfl:b=((t:Int),d):=by simpa using hb
  rintro rfl
  obtain⟨u,f1,f2,f3,_⟩:=hd.spot _ ha
  have f1:(t:Int)=(u:Int):=f1
  have f3:at_ l (u:Int)≤d:=f3
  rw[←f1] at f3
  omega
 ·rcases List.mem_append.1 (hp.mem_iff.1 hy) with hy | hy
  ·obtain⟨u,f1,f2,f3,f4,f5⟩:=hd.spot y hy
   have:=hle u
   exact⟨u,f1,f2,by omega,f4,fun hS=>by have:=f5 hS;omega⟩
  obtain rfl:y=((t:Int),d):=by simpa using hy
  refine⟨t,rfl,htM,by rw[hat,if_pos rfl];exact Int.le_refl _,hdi,fun hS=>by rw[hSt] at hS;cases hS⟩
 ·rcases List.mem_append.1 (hp.mem_iff.1 hy) with hy | hy
  ·exact hd.ord y hy
  obtain rfl:y=((t:Int),d):=by simpa using hy
  exact hdm
 ·rw[hkeep v hv hS];exact hd.set_ v hv hS
 ·refine hp.mem_iff.2 (List.mem_append.2 ?_)
  rw[hat] at hl ⊢
  by_cases hvt:v=t
  ·subst hvt;rw[if_pos rfl];exact .inr (by simp)
  rw[if_neg hvt] at hl ⊢;exact .inl (hd.reach v hv hS hl)
 ·obtain⟨q1,q2,q3,q4⟩:=hw f hf
  have e1:at_ (l.set t d) f.1=at_ l f.1:=by rw[at_lt q1,at_lt (l:=l) q1];exact hkeep _ (by omega) hS
  have e2:at_ (l.set t d) f.2.1≤at_ l f.2.1:=by rw[at_lt q3,at_lt (l:=l) q3];exact hle _
  rw[e1]
  rcases hd.done f hf hS with h2 | h2
  ·rcases List.mem_cons.1 h2 with rfl | h2
   ·refine .inr ?_
    rw[hm,hdd,ht,hat,if_pos rfl];exact Int.le_refl _
   exact .inl h2
  exact .inr (by omega)
 have h2:=hd.cnt
 have h3:=hp.length_eq
 simp only[List.length_append,List.length_cons,List.length_nil] at h2 h3
 omega
theorem DI.finish {V:Int} (hc:checkF V es=0) (h0:0≤s) (h1:s<V) (hM:V=(M:Int)) (hd:DI es M s l [] S [] m):l=relaxedF V es s:=by
 subst hM
 have hw:=within_of hc
 rw[Int.toNat_natCast] at hw
 refine fin_relaxed hc h0 h1 (by rw[Int.toNat_natCast];exact hd.good) ?_ (by rw[Int.toNat_natCast];exact hd.low)
 rw[Int.toNat_natCast]
 refine⟨hd.good.len,by rw[hd.good.src];exact Int.le_refl _,fun i hi=>(hd.good.rng i hi).2,fun e he=>?_⟩
 obtain⟨w1,w2,w3,w4⟩:=hw e he
 cases hS:S e.1.toNat with
 | true=>exact (hd.done e he hS).resolve_left (by simp)
 | false=>
  have hr:=hd.good.rng e.1.toNat (by omega)
  have hr2:=hd.good.rng e.2.1.toNat (by omega)
  have:¬at_ l (e.1.toNat:Int)<inf:=fun hl=>by have:=hd.reach e.1.toNat (by omega) hS hl;simp at this
  rw[at_lt w1,at_lt w3,show at_ l (e.1.toNat:Int)=inf by omega,dadd_inf]
  exact hr2.2
end
end Go.Proofs.YtgbahnlgblahpaaGreat

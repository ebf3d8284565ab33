/- Lemmas: Sty. -/
import Derived.Test.YtpojjmbalgmcoaaGreatProg
set_option linter.unusedVariables false
set_option linter.unusedSimpArgs false
set_option maxRecDepth 100000
set_option maxHeartbeats 16000000
namespace Go.Proofs.YtpojjmbalgmcoaaGreat
section
variable {α:Type}
def Srt (κ:α→Int) (a b:Nat) (d:List α):Prop:=∀i j x y,a≤i→i<j→j<b→d[i]?=some x→d[j]?=some y→κ x≤κ y
def Stb (κ:α→Int) (d d':List α):Prop:=∀c:Int,d'.filter (fun x=>κ x == c)=d.filter (fun x=>κ x == c)
theorem Stb.refl (κ:α→Int) (d:List α):Stb κ d d:=fun _=>rfl
theorem Stb.trans {κ:α→Int} {d e f:List α} (h:Stb κ d e) (g:Stb κ e f):Stb κ d f:=fun c=>(g c).trans (h c)
structure Mv (a b:Nat) (d d':List α):Prop where
 len:d'.length=d.length
 out:∀t,(t<a∨b≤t)→d'[t]?=d[t]?
 inn:∀t,a≤t→t<b→∃s,a≤s∧s<b∧d'[t]?=d[s]?
 perm:d'.Perm d
theorem Mv.refl (a b:Nat) (d:List α):Mv a b d d:=⟨rfl,fun _ _=>rfl,fun t h1 h2=>⟨t,h1,h2,rfl⟩,List.Perm.refl _⟩
theorem Mv.trans {a b:Nat} {d e f:List α} (h:Mv a b d e) (g:Mv a b e f):Mv a b d f:=by
 refine⟨g.len.trans h.len,fun t ht=>(g.out t ht).trans (h.out t ht),fun t h1 h2=>?_,g.perm.trans h.perm⟩
 obtain⟨s,s1,s2,s3⟩:=g.inn t h1 h2
 obtain⟨r,r1,r2,r3⟩:=h.inn s s1 s2
 exact⟨r,r1,r2,s3.trans r3⟩
theorem Mv.mono {a b a' b':Nat} {d e:List α} (h:Mv a b d e) (ha:a'≤a) (hb:b≤b'):Mv a' b' d e:=by
 refine⟨h.len,fun t ht=>h.out t (by omega),fun t h1 h2=>?_,h.perm⟩
 by_cases hc:a≤t∧t<b
 ·obtain⟨s,s1,s2,s3⟩:=h.inn t hc.1 hc.2
  exact⟨s,by omega,by omega,s3⟩
 exact⟨t,h1,h2,h.out t (by omega)⟩
theorem Mv.srt_out {κ:α→Int} {a b lo hi:Nat} {d e:List α} (h:Mv a b d e) (hs:Srt κ lo hi d) (ho:hi≤a∨b≤lo):Srt κ lo hi e:=fun i j x y h1 h2 h3 h4 h5=>
 hs i j x y h1 h2 h3 ((h.out i (by omega)).symm.trans h4) ((h.out j (by omega)).symm.trans h5)
theorem get_some {d:List α} {i:Nat} (h:i<d.length):∃x,d[i]?=some x:=⟨_,List.getElem?_eq_getElem h⟩
theorem lt_of_get {d:List α} {i:Nat} {x:α} (h:d[i]?=some x):i<d.length:=(List.getElem?_eq_some_iff.1 h).1
def rotL (a m b:Nat) (d:List α):List α:=d.take a ++ ((d.drop m).take (b-m) ++ ((d.drop a).take (m-a) ++ d.drop b))
theorem rotL_get {a m b:Nat} {d:List α} (h1:a≤m) (h2:m≤b) (h3:b≤d.length) (t:Nat):(rotL a m b d)[t]?=if t<a then d[t]? else if t<a+(b-m) then d[t-a+m]? else if t<b then d[t-(b-m)]? else d[t]?:=by
 have l1:(d.take a).length=a:=by rw[List.length_take];omega
 have l2:((d.drop m).take (b-m)).length=b-m:=by rw[List.length_take,List.length_drop];omega
 have l3:((d.drop a).take (m-a)).length=m-a:=by rw[List.length_take,List.length_drop];omega
 unfold rotL
 by_cases c1:t<a
 ·rw[if_pos c1,List.getElem?_append_left (by omega),List.getElem?_take,if_pos c1]
 rw[if_neg c1,List.getElem?_append_right (by omega),l1]
 by_cases c2:t<a+(b-m)
 ·rw[if_pos c2,List.getElem?_append_left (by omega),List.getElem?_take,if_pos (by omega),List.getElem?_drop]
  congr 1;omega
 rw[if_neg c2,List.getElem?_append_right (by omega),l2]
 by_cases c3:t<b
 ·rw[if_pos c3,List.getElem?_append_left (by omega),List.getElem?_take,if_pos (by omega),List.getElem?_drop]
  congr 1;omega
 rw[if_neg c3,List.getElem?_append_right (by omega),l3,List.getElem?_drop]
 congr 1;omega
theorem rotL_parts {a m b:Nat} {d:List α} (h1:a≤m) (h2:m≤b):d=d.take a ++ ((d.drop a).take (m-a) ++ ((d.drop m).take (b-m) ++ d.drop b)):=by
 have e1:(d.drop m).take (b-m) ++ d.drop b=d.drop m:=by
  have h:=List.take_append_drop (b-m) (d.drop m)
  rw[List.drop_drop,show m+(b-m)=b by omega] at h
  exact h
 have e2:(d.drop a).take (m-a) ++ d.drop m=d.drop a:=by
  have h:=List.take_append_drop (m-a) (d.drop a)
  rw[List.drop_drop,show a+(m-a)=m by omega] at h
  exact h
 rw[e1,e2,List.take_append_drop]
theorem rotL_perm {a m b:Nat} {d:List α} (h1:a≤m) (h2:m≤b):(rotL a m b d).Perm d:=by
 conv=>rhs;rw[rotL_parts (d:=d) h1 h2]
 unfold rotL
 refine List.Perm.append_left _ ?_
 rw[←List.append_assoc,←List.append_assoc]
 exact List.Perm.append_right _ List.perm_append_comm
theorem rotL_len {a m b:Nat} {d:List α} (h1:a≤m) (h2:m≤b):(rotL a m b d).length=d.length:=(rotL_perm h1 h2).length_eq
theorem rotL_mv {a m b:Nat} {d:List α} (h1:a≤m) (h2:m≤b) (h3:b≤d.length):Mv a b d (rotL a m b d):=by
 refine⟨rotL_len h1 h2,fun t ht=>?_,fun t ht1 ht2=>?_,rotL_perm h1 h2⟩
 ·rw[rotL_get h1 h2 h3]
  by_cases c1:t<a
  ·rw[if_pos c1]
  rw[if_neg c1,if_neg (by omega),if_neg (by omega)]
 rw[rotL_get h1 h2 h3,if_neg (by omega)]
 by_cases c2:t<a+(b-m)
 ·exact⟨t-a+m,by omega,by omega,by rw[if_pos c2]⟩
 exact⟨t-(b-m),by omega,by omega,by rw[if_neg c2,if_pos ht2]⟩
theorem filter_none {l:List α} {p:α→Bool} (h:∀x∈l,p x=false):l.filter p=[]:=List.filter_eq_nil_iff.2 fun x hx=>by rw[h x hx];decide
theorem mem_seg {d:List α} {a b:Nat} {x:α} (h:x∈(d.drop a).take (b-a)):∃i,a≤i∧i<b∧d[i]?=some x:=by
 obtain⟨i,hi⟩:=List.getElem?_of_mem h
 rw[List.getElem?_take] at hi
 by_cases c:i<b-a
 ·rw[if_pos c,List.getElem?_drop] at hi
  exact⟨a+i,by omega,by omega,hi⟩
 rw[if_neg c] at hi;cases hi
theorem rotL_stb {κ:α→Int} {a m b:Nat} {d:List α} (h1:a≤m) (h2:m≤b) (h:∀i j x y,a≤i→i<m→m≤j→j<b→d[i]?=some x→d[j]?=some y→κ y≠κ x):Stb κ d (rotL a m b d):=by
 intro c
 conv=>rhs;rw[rotL_parts (d:=d) h1 h2]
 unfold rotL
 simp only[List.filter_append]
 congr 1
 rw[←List.append_assoc,←List.append_assoc]
 congr 1
 by_cases hc:∃x∈(d.drop a).take (m-a),κ x=c
 ·obtain⟨x,hx,rfl⟩:=hc
  obtain⟨i,i1,i2,i3⟩:=mem_seg hx
  rw[filter_none (l:=(d.drop m).take (b-m)) (fun y hy=>by
   obtain⟨j,j1,j2,j3⟩:=mem_seg hy
   simp only[beq_eq_false_iff_ne,ne_eq]
   exact h i j x y i1 i2 j1 j2 i3 j3)]
  simp
 rw[filter_none (l:=(d.drop a).take (m-a)) (fun y hy=>by
  simp only[beq_eq_false_iff_ne,ne_eq]
  exact fun e=>hc ⟨y,hy,e⟩)]
 simp
theorem ext_get {d e:List α} (h:∀t:Nat,d[t]?=e[t]?):d=e:=List.ext_getElem? h
def swapL (d:List α) (i j:Nat):List α:=match d[i]?,d[j]? with
 | some x,some y=>(d.set i y).set j x
 | _,_=>d
theorem swapL_eq {d:List α} {i j:Nat} {x y:α} (hx:d[i]?=some x) (hy:d[j]?=some y):swapL d i j=(d.set i y).set j x:=by
 unfold swapL;rw[hx,hy]
theorem swapL_len (d:List α) (i j:Nat):(swapL d i j).length=d.length:=by
 unfold swapL
 split <;> simp
theorem swapL_get {d:List α} {i j:Nat} (hi:i<d.length) (hj:j<d.length) (t:Nat):(swapL d i j)[t]?=if t=j then d[i]? else if t=i then d[j]? else d[t]?:=by
 obtain⟨x,hx⟩:=get_some hi
 obtain⟨y,hy⟩:=get_some hj
 rw[swapL_eq hx hy,List.getElem?_set,List.length_set]
 by_cases c1:t=j
 ·subst c1
  rw[if_pos rfl,if_pos hj,if_pos rfl,hx]
 rw[if_neg (fun e=>c1 e.symm),if_neg c1,List.getElem?_set]
 by_cases c2:t=i
 ·subst c2
  rw[if_pos rfl,if_pos hi,if_pos rfl,hy]
 rw[if_neg (fun e=>c2 e.symm),if_neg c2]
theorem swapL_next {d:List α} {j:Nat} (hj:j+1<d.length):swapL d (j+1) j=rotL j (j+1) (j+1+1) d:=by
 refine ext_get fun t=>?_
 rw[swapL_get hj (by omega),rotL_get (by omega) (by omega) (by omega)]
 by_cases c1:t=j
 ·subst c1
  rw[if_pos rfl,if_neg (by omega),if_pos (by omega)]
  congr 1;omega
 rw[if_neg c1]
 by_cases c2:t=j+1
 ·subst c2
  rw[if_pos rfl,if_neg (by omega),if_neg (by omega),if_pos (by omega)]
  congr 1;omega
 rw[if_neg c2]
 by_cases c3:t<j
 ·rw[if_pos c3]
 rw[if_neg c3,if_neg (by omega),if_neg (by omega)]
structure Swp (a b k:Nat) (d e:List α):Prop where
 len:e.length=d.length
 get:∀t,e[t]?=if a≤t∧t<a+k then d[t-a+b]? else if b≤t∧t<b+k then d[t-b+a]? else d[t]?
theorem Swp.zero (a b:Nat) (d:List α):Swp a b 0 d d:=⟨rfl,fun t=>by rw[if_neg (by omega),if_neg (by omega)]⟩
theorem Swp.step {a b k n:Nat} {d e:List α} (h:Swp a b k d e) (hk:k<n) (hab:a+n≤b) (hb:b+n≤d.length):Swp a b (k+1) d (swapL e (a+k) (b+k)):=by
 refine⟨(swapL_len _ _ _).trans h.len,fun t=>?_⟩
 have hl:=h.len
 rw[swapL_get (by omega) (by omega)]
 by_cases c1:t=b+k
 ·rw[if_pos c1,h.get,if_neg (by omega),if_neg (by omega),if_neg (by omega),if_pos (by omega)]
  congr 1;omega
 rw[if_neg c1]
 by_cases c2:t=a+k
 ·rw[if_pos c2,h.get,if_neg (by omega),if_neg (by omega),if_pos (by omega)]
  congr 1;omega
 rw[if_neg c2,h.get]
 by_cases c3:a≤t∧t<a+k
 ·rw[if_pos c3,if_pos (by omega)]
 rw[if_neg c3]
 by_cases c4:b≤t∧t<b+k
 ·rw[if_pos c4,if_neg (by omega),if_pos (by omega)]
 rw[if_neg c4,if_neg (by omega),if_neg (by omega)]
theorem rot_gt {i j m:Nat} {d e:List α} (hij:j<i) (him:i≤m) (hl:m+j≤d.length) (h:Swp (m-i) m j d e):rotL (m-i) m (m+j) d=rotL (m-(i-j)) m (m+j) e:=by
 refine ext_get fun t=>?_
 have hl2:=h.len
 rw[rotL_get (by omega) (by omega) hl,rotL_get (by omega) (by omega) (by omega)]
 by_cases c1:t<m-i
 ·rw[if_pos c1,if_pos (by omega),h.get,if_neg (by omega),if_neg (by omega)]
 rw[if_neg c1]
 by_cases c2:t<m-i+(m+j-m)
 ·rw[if_pos c2,if_pos (by omega),h.get,if_pos (by omega)]
 rw[if_neg c2]
 by_cases c3:t<m+j
 ·rw[if_pos c3,if_neg (by omega)]
  by_cases c4:t<m-(i-j)+(m+j-m)
  ·rw[if_pos c4,h.get,if_neg (by omega),if_pos (by omega)]
   congr 1;omega
  rw[if_neg c4,if_pos c3,h.get,if_neg (by omega),if_neg (by omega)]
 rw[if_neg c3,if_neg (by omega),if_neg (by omega),if_neg c3,h.get,if_neg (by omega),if_neg (by omega)]
theorem rot_lt {i j m:Nat} {d e:List α} (hij:i<j) (him:i≤m) (hl:m+j≤d.length) (h:Swp (m-i) (m+j-i) i d e):rotL (m-i) m (m+j) d=rotL (m-i) m (m+(j-i)) e:=by
 refine ext_get fun t=>?_
 have hl2:=h.len
 rw[rotL_get (by omega) (by omega) hl,rotL_get (by omega) (by omega) (by omega)]
 by_cases c1:t<m-i
 ·rw[if_pos c1,if_pos c1,h.get,if_neg (by omega),if_neg (by omega)]
 rw[if_neg c1,if_neg c1]
 by_cases c2:t<m-i+(m+(j-i)-m)
 ·rw[if_pos (by omega),if_pos c2,h.get,if_neg (by omega),if_neg (by omega)]
 rw[if_neg c2]
 by_cases c3:t<m-i+(m+j-m)
 ·rw[if_pos c3]
  by_cases c4:t<m+(j-i)
  ·rw[if_pos c4,h.get,if_pos (by omega)]
   congr 1;omega
  omega
 rw[if_neg c3]
 by_cases c4:t<m+j
 ·rw[if_pos c4,if_neg (by omega),h.get,if_neg (by omega),if_pos (by omega)]
  congr 1;omega
 rw[if_neg c4,if_neg (by omega),h.get,if_neg (by omega),if_neg (by omega)]
theorem rot_eq {i m:Nat} {d e:List α} (him:i≤m) (hl:m+i≤d.length) (h:Swp (m-i) m i d e):rotL (m-i) m (m+i) d=e:=by
 refine ext_get fun t=>?_
 rw[rotL_get (by omega) (by omega) hl,h.get]
 by_cases c1:t<m-i
 ·rw[if_pos c1,if_neg (by omega),if_neg (by omega)]
 rw[if_neg c1]
 by_cases c2:t<m-i+(m+i-m)
 ·rw[if_pos c2,if_pos (by omega)]
 rw[if_neg c2]
 by_cases c3:t<m+i
 ·rw[if_pos c3,if_neg (by omega),if_pos (by omega)]
  congr 1;omega
 rw[if_neg c3,if_neg (by omega),if_neg (by omega)]
end
section
variable {α:Type} {lt:α→α→Bool} {κ:α→Int}
def KeyOn (lt:α→α→Bool) (κ:α→Int) (d:List α):Prop:=∀x y,x∈d→y∈d→lt x y=decide (κ x<κ y)
theorem KeyOn.perm {d e:List α} (h:KeyOn lt κ d) (hp:e.Perm d):KeyOn lt κ e:=fun x y hx hy=>h x y (hp.mem_iff.1 hx) (hp.mem_iff.1 hy)
theorem KeyOn.at {d:List α} (h:KeyOn lt κ d) {i j:Nat} {x y:α} (hx:d[i]?=some x) (hy:d[j]?=some y):lt x y=decide (κ x<κ y):=h x y (List.mem_of_getElem? hx) (List.mem_of_getElem? hy)
def InsO (lt:α→α→Bool) (κ:α→Int) (a b i:Nat) (d0 d:List α):Prop:=Mv a b d0 d∧(KeyOn lt κ d0→Srt κ a i d∧Stb κ d0 d)
def InsI (lt:α→α→Bool) (κ:α→Int) (a b i j:Nat) (d0 d:List α):Prop:=Mv a b d0 d∧(KeyOn lt κ d0→Stb κ d0 d ∧
 (∀(s t:Nat) (x y:α),a≤s→s<t→t<i+1→s≠j→t≠j→d[s]?=some x→d[t]?=some y→κ x≤κ y)∧(∀(t:Nat) (x y:α),j<t→t<i+1→d[j]?=some x→d[t]?=some y→κ x<κ y))
theorem InsO.start (a b:Nat) (d:List α):InsO lt κ a b (a+1) d d:=⟨Mv.refl _ _ _,fun _=>⟨fun i j x y h1 h2 h3=>by omega,Stb.refl _ _⟩⟩
theorem InsO.inner {a b i:Nat} {d0 d:List α} (h:InsO lt κ a b i d0 d):InsI lt κ a b i i d0 d:=⟨h.1,fun hk=>⟨(h.2 hk).2,fun s t x y h1 h2 h3 h4 h5 h6 h7=>(h.2 hk).1 s t x y h1 h2 (by omega) h6 h7,fun t x y h1 h2=>by omega⟩⟩
theorem InsI.stop {a b i j:Nat} {d0 d:List α} (h:InsI lt κ a b i j d0 d) (hs:j=a∨∃k x y,j=k+1∧d[j]?=some x∧d[k]?=some y∧lt x y=false):InsO lt κ a b (i+1) d0 d:=by
 refine⟨h.1,fun hk=>?_⟩
 obtain⟨h1,h2,h3⟩:=h.2 hk
 refine⟨fun s t x y g1 g2 g3 g4 g5=>?_,h1⟩
 by_cases c1:s=j
 ·subst c1
  have:=h3 t x y g2 g3 g4 g5
  omega
 by_cases c2:t=j
 ·subst c2
  rcases hs with rfl | ⟨k,x',y',rfl,e1,e2,e3⟩
  ·omega
  have hK:=(hk.perm h.1.perm).at e1 e2
  rw[e3] at hK
  obtain rfl:y=x':=by simpa [g5] using e1
  have e4:¬κ y<κ y':=by simpa using hK.symm
  by_cases c3:s=k
  ·subst c3
   obtain rfl:x=y':=by simpa [g4] using e2
   omega
  have:=h2 s k x y' g1 (by omega) (by omega) c1 (by omega) g4 e2
  omega
 exact h2 s t x y g1 g2 g3 c1 c2 g4 g5
theorem InsI.step {a b i k:Nat} {d0 d:List α} {x y:α} (h:InsI lt κ a b i (k+1) d0 d) (hb:i<b) (hki:k+1≤i) (hak:a≤k) (hbl:b≤d.length) (hx:d[k+1]?=some x) (hy:d[k]?=some y) (hlt:lt x y=true):InsI lt κ a b i k d0 (swapL d (k+1) k):=by
 have hrot:swapL d (k+1) k=rotL k (k+1) (k+1+1) d:=swapL_next (by omega)
 have hmv:Mv k (k+1+1) d (swapL d (k+1) k):=by rw[hrot];exact rotL_mv (by omega) (by omega) (by omega)
 refine⟨h.1.trans (hmv.mono hak (by omega)),fun hk=>?_⟩
 obtain⟨h1,h2,h3⟩:=h.2 hk
 have hK:=(hk.perm h.1.perm).at hx hy
 rw[hlt] at hK
 have hxy:κ x<κ y:=by simpa using hK.symm
 have g:=swapL_get (d:=d) (i:=k+1) (j:=k) (by omega) (by omega)
 have hst:Stb κ d (swapL d (k+1) k):=by
  rw[hrot]
  refine rotL_stb (by omega) (by omega) fun i j x' y' i1 i2 j1 j2 i3 j3=>?_
  obtain rfl:i=k:=by omega
  obtain rfl:j=i+1:=by omega
  rw[hy] at i3
  rw[hx] at j3
  cases i3;cases j3
  omega
 refine⟨h1.trans hst,fun s t x' y' s1 s2 s3 s4 s5 s6 s7=>?_,fun t x' y' t1 t2 t3 t4=>?_⟩
 ·rw[g,if_neg s4] at s6
  rw[g,if_neg s5] at s7
  by_cases c1:s=k+1
  ·rw[if_pos c1] at s6
   rw[if_neg (by omega)] at s7
   exact h2 k t x' y' hak (by omega) s3 (by omega) (by omega) s6 s7
  rw[if_neg c1] at s6
  by_cases c2:t=k+1
  ·rw[if_pos c2] at s7
   exact h2 s k x' y' s1 (by omega) (by omega) c1 (by omega) s6 s7
  rw[if_neg c2] at s7
  exact h2 s t x' y' s1 s2 s3 c1 c2 s6 s7
 rw[g,if_pos rfl,hx] at t3
 cases t3
 rw[g,if_neg (by omega)] at t4
 by_cases c1:t=k+1
 ·rw[if_pos c1,hy] at t4
  cases t4
  exact hxy
 rw[if_neg c1] at t4
 exact h3 t x y' (by omega) t2 hx t4
def SymR (lt:α→α→Bool) (κ:α→Int) (a m b:Nat) (d d':List α):Prop:=Mv a b d d'∧(KeyOn lt κ d→Srt κ a m d→Srt κ m b d→Srt κ a b d'∧Stb κ d d')
theorem SymR.none_ {a s m:Nat} {d:List α} (h1:a≤s) (h2:s≤m) (h:¬(a<s∧s<m)):SymR lt κ a s m d d:=by
 refine⟨Mv.refl _ _ _,fun _ g1 g2=>⟨?_,Stb.refl _ _⟩⟩
 rcases (show a=s∨s=m by omega) with e | e
 ·rw[e];exact g2
 rw[←e];exact g1
def One1 (lt:α→α→Bool) (κ:α→Int) (a b i j:Nat) (d:List α):Prop:=KeyOn lt κ d→Srt κ (a+1) b d→∀x,d[a]?=some x→(∀t y,a+1≤t→t<i→d[t]?=some y→κ y<κ x)∧(∀t y,j≤t→t<b→d[t]?=some y→κ x≤κ y)
theorem One1.start (a b:Nat) (d:List α):One1 lt κ a b (a+1) b d:=fun _ _ x _=>⟨fun t y h1 h2=>by omega,fun t y h1 h2=>by omega⟩
theorem One1.up {a b i j h:Nat} {d:List α} {x y:α} (g:One1 lt κ a b i j d) (h1:a+1≤h) (h2:h<b) (hy:d[h]?=some y) (hx:d[a]?=some x) (hlt:lt y x=true):One1 lt κ a b (h+1) j d:=fun hk hs x' hx'=>by
 obtain rfl:x=x':=by simpa [hx] using hx'
 refine⟨fun t z t1 t2 t3=>?_,(g hk hs x hx).2⟩
 have hK:=hk.at hy hx
 rw[hlt] at hK
 have e:κ y<κ x:=by simpa using hK.symm
 by_cases c:t=h
 ·subst c;rw[hy] at t3;cases t3;exact e
 have:=hs t h z y t1 (by omega) h2 t3 hy
 omega
theorem One1.down {a b i j h:Nat} {d:List α} {x y:α} (g:One1 lt κ a b i j d) (h1:a+1≤h) (h2:h<b) (hy:d[h]?=some y) (hx:d[a]?=some x) (hlt:lt y x=false):One1 lt κ a b i h d:=fun hk hs x' hx'=>by
 obtain rfl:x=x':=by simpa [hx] using hx'
 refine⟨(g hk hs x hx).1,fun t z t1 t2 t3=>?_⟩
 have hK:=hk.at hy hx
 rw[hlt] at hK
 have e:¬κ y<κ x:=by simpa using hK.symm
 by_cases c:t=h
 ·subst c;rw[hy] at t3;cases t3;omega
 have:=hs h t y z h1 (by omega) t2 hy t3
 omega
theorem One1.done {a b i:Nat} {d:List α} (g:One1 lt κ a b i i d) (h1:a+1≤i) (h2:i≤b) (h3:b≤d.length):SymR lt κ a (a+1) b d (rotL a (a+1) i d):=by
 refine⟨(rotL_mv (by omega) h1 (by omega)).mono (Nat.le_refl _) h2,fun hk _ hs=>?_⟩
 obtain⟨x,hx⟩:=get_some (d:=d) (i:=a) (by omega)
 obtain⟨g1,g2⟩:=g hk hs x hx
 have e:=rotL_get (a:=a) (m:=a+1) (b:=i) (d:=d) (by omega) h1 (by omega)
 refine⟨fun s t y z s1 s2 s3 s4 s5=>?_,rotL_stb (by omega) h1 fun s t y z s1 s2 t1 t2 s3 t3=>?_⟩
 ·rw[e,if_neg (by omega)] at s4 s5
  by_cases c1:s<a+(i-(a+1))
  ·rw[if_pos c1] at s4
   by_cases c2:t<a+(i-(a+1))
   ·rw[if_pos c2] at s5
    exact hs _ _ y z (by omega) (by omega) (by omega) s4 s5
   rw[if_neg c2] at s5
   by_cases c3:t<i
   ·rw[if_pos c3,show t-(i-(a+1))=a by omega,hx] at s5
    cases s5
    have:=g1 _ y (by omega) (by omega) s4
    omega
   rw[if_neg c3] at s5
   exact hs _ _ y z (by omega) (by omega) (by omega) s4 s5
  rw[if_neg c1] at s4
  rw[if_neg (by omega),if_neg (by omega)] at s5
  by_cases c3:s<i
  ·rw[if_pos c3,show s-(i-(a+1))=a by omega,hx] at s4
   cases s4
   exact g2 t z (by omega) s3 s5
  rw[if_neg c3] at s4
  exact hs s t y z (by omega) s2 s3 s4 s5
 obtain rfl:s=a:=by omega
 rw[hx] at s3
 cases s3
 have:=g1 t z t1 t2 t3
 omega
theorem rot_one {a k:Nat} {d:List α} (h1:a≤k) (h2:k+1<d.length):swapL (rotL a (a+1) (k+1) d) k (k+1)=rotL a (a+1) (k+1+1) d:=by
 have hl:(rotL a (a+1) (k+1) d).length=d.length:=rotL_len (by omega) (by omega)
 have e:=rotL_get (a:=a) (m:=a+1) (b:=k+1) (d:=d) (by omega) (by omega) (by omega)
 have e2:=rotL_get (a:=a) (m:=a+1) (b:=k+1+1) (d:=d) (by omega) (by omega) (by omega)
 refine ext_get fun t=>?_
 rw[swapL_get (by omega) (by omega),e2]
 by_cases c1:t=k+1
 ·rw[if_pos c1,e,if_neg (by omega),if_neg (by omega),if_pos (by omega),if_neg (by omega),if_neg (by omega),if_pos (by omega)]
  congr 1;omega
 rw[if_neg c1]
 by_cases c2:t=k
 ·rw[if_pos c2,e,if_neg (by omega),if_neg (by omega),if_neg (by omega),if_neg (by omega),if_pos (by omega)]
  congr 1;omega
 rw[if_neg c2,e]
 by_cases c3:t<a
 ·rw[if_pos c3,if_pos c3]
 rw[if_neg c3,if_neg c3]
 by_cases c4:t<k
 ·rw[if_pos (by omega),if_pos (by omega)]
 rw[if_neg (by omega),if_neg (by omega),if_neg (by omega),if_neg (by omega)]
theorem rot_id1 {a:Nat} {d:List α} (h:a+1≤d.length):rotL a (a+1) (a+1) d=d:=by
 refine ext_get fun t=>?_
 rw[rotL_get (by omega) (by omega) h]
 by_cases c1:t<a
 ·rw[if_pos c1]
 rw[if_neg c1,if_neg (by omega)]
 by_cases c2:t<a+1
 ·rw[if_pos c2];congr 1;omega
 rw[if_neg c2]
def One2 (lt:α→α→Bool) (κ:α→Int) (a m i j:Nat) (d:List α):Prop:=KeyOn lt κ d→Srt κ a m d→∀x,d[m]?=some x→(∀t y,a≤t→t<i→d[t]?=some y→κ y≤κ x)∧(∀t y,j≤t→t<m→d[t]?=some y→κ x<κ y)
theorem One2.start (a m:Nat) (d:List α):One2 lt κ a m a m d:=fun _ _ x _=>⟨fun t y h1 h2=>by omega,fun t y h1 h2=>by omega⟩
theorem One2.up {a m i j h:Nat} {d:List α} {x y:α} (g:One2 lt κ a m i j d) (h1:a≤h) (h2:h<m) (hy:d[h]?=some y) (hx:d[m]?=some x) (hlt:lt x y=false):One2 lt κ a m (h+1) j d:=fun hk hs x' hx'=>by
 obtain rfl:x=x':=by simpa [hx] using hx'
 refine⟨fun t z t1 t2 t3=>?_,(g hk hs x hx).2⟩
 have hK:=hk.at hx hy
 rw[hlt] at hK
 have e:¬κ x<κ y:=by simpa using hK.symm
 by_cases c:t=h
 ·subst c;rw[hy] at t3;cases t3;omega
 have:=hs t h z y t1 (by omega) h2 t3 hy
 omega
theorem One2.down {a m i j h:Nat} {d:List α} {x y:α} (g:One2 lt κ a m i j d) (h1:a≤h) (h2:h<m) (hy:d[h]?=some y) (hx:d[m]?=some x) (hlt:lt x y=true):One2 lt κ a m i h d:=fun hk hs x' hx'=>by
 obtain rfl:x=x':=by simpa [hx] using hx'
 refine⟨(g hk hs x hx).1,fun t z t1 t2 t3=>?_⟩
 have hK:=hk.at hx hy
 rw[hlt] at hK
 have e:κ x<κ y:=by simpa using hK.symm
 by_cases c:t=h
 ·subst c;rw[hy] at t3;cases t3;exact e
 have:=hs h t y z h1 (by omega) t2 hy t3
 omega
theorem One2.done {a m i:Nat} {d:List α} (g:One2 lt κ a m i i d) (h1:a≤i) (h2:i≤m) (h3:m+1≤d.length):SymR lt κ a m (m+1) d (rotL i m (m+1) d):=by
 refine⟨(rotL_mv h2 (by omega) (by omega)).mono h1 (Nat.le_refl _),fun hk hs _=>?_⟩
 obtain⟨x,hx⟩:=get_some (d:=d) (i:=m) (by omega)
 obtain⟨g1,g2⟩:=g hk hs x hx
 have e:=rotL_get (a:=i) (m:=m) (b:=m+1) (d:=d) h2 (by omega) (by omega)
 refine⟨fun s t y z s1 s2 s3 s4 s5=>?_,rotL_stb h2 (by omega) fun s t y z s1 s2 t1 t2 s3 t3=>?_⟩
 ·rw[e] at s4 s5
  by_cases c1:s<i
  ·rw[if_pos c1] at s4
   by_cases c2:t<i
   ·rw[if_pos c2] at s5
    exact hs s t y z s1 s2 (by omega) s4 s5
   rw[if_neg c2] at s5
   by_cases c3:t<i+(m+1-m)
   ·rw[if_pos c3,show t-i+m=m by omega,hx] at s5
    cases s5
    exact g1 s y s1 c1 s4
   rw[if_neg c3,if_pos (by omega)] at s5
   exact hs _ _ y z s1 (by omega) (by omega) s4 s5
  rw[if_neg c1] at s4
  rw[if_neg (by omega),if_neg (by omega),if_pos (by omega)] at s5
  by_cases c3:s<i+(m+1-m)
  ·rw[if_pos c3,show s-i+m=m by omega,hx] at s4
   cases s4
   have:=g2 _ z (by omega) (by omega) s5
   omega
  rw[if_neg c3,if_pos (by omega)] at s4
  exact hs _ _ y z (by omega) (by omega) (by omega) s4 s5
 obtain rfl:t=m:=by omega
 rw[hx] at t3
 cases t3
 have:=g2 s y s1 s2 s3
 omega
theorem rot_last {k m:Nat} {d:List α} (h1:k+1≤m) (h2:m<d.length):swapL (rotL (k+1) m (m+1) d) (k+1) k=rotL k m (m+1) d:=by
 have hl:(rotL (k+1) m (m+1) d).length=d.length:=rotL_len (by omega) (by omega)
 have e:=rotL_get (a:=k+1) (m:=m) (b:=m+1) (d:=d) h1 (by omega) (by omega)
 have e2:=rotL_get (a:=k) (m:=m) (b:=m+1) (d:=d) (by omega) (by omega) (by omega)
 refine ext_get fun t=>?_
 rw[swapL_get (by omega) (by omega),e2]
 by_cases c1:t=k
 ·rw[if_pos c1,e,if_neg (by omega),if_pos (by omega),if_neg (by omega),if_pos (by omega)]
  congr 1;omega
 rw[if_neg c1]
 by_cases c2:t=k+1
 ·rw[if_pos c2,e,if_pos (by omega),if_neg (by omega),if_neg (by omega),if_pos (by omega)]
  congr 1;omega
 rw[if_neg c2,e]
 by_cases c3:t<k
 ·rw[if_pos (by omega),if_pos c3]
 rw[if_neg (show ¬t<k+1 by omega),if_neg (show ¬t<k+1+(m+1-m) by omega),if_neg c3,if_neg (show ¬t<k+(m+1-m) by omega)]
theorem rot_id2 {m:Nat} {d:List α} (h:m+1≤d.length):rotL m m (m+1) d=d:=by
 refine ext_get fun t=>?_
 rw[rotL_get (by omega) (by omega) h]
 by_cases c1:t<m
 ·rw[if_pos c1]
 rw[if_neg c1]
 by_cases c2:t<m+(m+1-m)
 ·rw[if_pos c2];congr 1;omega
 rw[if_neg c2,if_neg (by omega)]
def Cut2 (lt:α→α→Bool) (κ:α→Int) (a m b s0 r0 p s r:Nat) (d:List α):Prop:=KeyOn lt κ d→Srt κ a m d→Srt κ m b d→(∀c x y,s0≤c→c<s→d[c]?=some x→d[p-c]?=some y→κ x≤κ y)∧(∀c x y,r≤c→c<r0→d[c]?=some x→d[p-c]?=some y→κ y<κ x)
theorem Cut2.start (a m b s0 r0 p:Nat) (d:List α):Cut2 lt κ a m b s0 r0 p s0 r0 d:=fun _ _ _=>⟨fun c x y h1 h2=>by omega,fun c x y h1 h2=>by omega⟩
theorem Cut2.up {a m b s0 r0 p s r c:Nat} {d:List α} {x y:α} (g:Cut2 lt κ a m b s0 r0 p s r d) (has:a≤s0) (hrm:r0≤m) (hp1:m+r0≤p+1) (hp2:p<b+s0) (h1:s0≤c) (h2:c<r0) (hx:d[c]?=some x) (hy:d[p-c]?=some y) (hlt:lt y x=false):Cut2 lt κ a m b s0 r0 p (c+1) r d:=fun hk g1 g2=>by
 refine⟨fun t x' y' t1 t2 t3 t4=>?_,(g hk g1 g2).2⟩
 have hK:=hk.at hy hx
 rw[hlt] at hK
 have e:¬κ y<κ x:=by simpa using hK.symm
 by_cases h:t=c
 ·subst h;rw[hx] at t3;rw[hy] at t4;cases t3;cases t4;omega
 have e1:=g1 t c x' x (by omega) (by omega) (by omega) t3 hx
 have e2:=g2 (p-c) (p-t) y y' (by omega) (by omega) (by omega) hy t4
 omega
theorem Cut2.down {a m b s0 r0 p s r c:Nat} {d:List α} {x y:α} (g:Cut2 lt κ a m b s0 r0 p s r d) (has:a≤s0) (hrm:r0≤m) (hp1:m+r0≤p+1) (hp2:p<b+s0) (h1:s0≤c) (h2:c<r0) (hx:d[c]?=some x) (hy:d[p-c]?=some y) (hlt:lt y x=true):Cut2 lt κ a m b s0 r0 p s c d:=fun hk g1 g2=>by
 refine⟨(g hk g1 g2).1,fun t x' y' t1 t2 t3 t4=>?_⟩
 have hK:=hk.at hy hx
 rw[hlt] at hK
 have e:κ y<κ x:=by simpa using hK.symm
 by_cases h:t=c
 ·subst h;rw[hx] at t3;rw[hy] at t4;cases t3;cases t4;exact e
 have e1:=g1 c t x x' (by omega) (by omega) (by omega) hx t3
 have e2:=g2 (p-t) (p-c) y' y (by omega) (by omega) (by omega) t4 hy
 omega
theorem sym_join {a m b mid s0 r0 s e:Nat} {d f g:List α} (ha:a<m) (hb:m<b) (hbl:b≤d.length) (hmid:mid=(a+b) / 2) (hs0:(m≤mid∧s0=a∧r0=m)∨(mid<m∧s0+b=mid+m∧r0=mid)) (h1:s0≤s) (h2:s≤r0) (he:e+s=mid+m)
  (hc:Cut2 lt κ a m b s0 r0 (mid+m-1) s s d) (hf:SymR lt κ a s mid (rotL s m e d) f) (hg:SymR lt κ mid e b f g):SymR lt κ a m b d g:=by
 have hsm:s≤m:=by omega
 have hme:m≤e:=by omega
 have heb:e≤b:=by omega
 have hmv:=rotL_mv (d:=d) hsm hme (by omega)
 refine⟨((hmv.mono (by omega) heb).trans (hf.1.mono (Nat.le_refl _) (by omega))).trans (hg.1.mono (by omega) (Nat.le_refl _)),fun hk k1 k2=>?_⟩
 obtain⟨c1,c2⟩:=hc hk k1 k2
 have G:=rotL_get (d:=d) hsm hme (show e≤d.length by omega)
 have hVU:∀i j x y,s≤i→i<m→m≤j→j<e→d[i]?=some x→d[j]?=some y→κ y<κ x:=fun i j x y i1 i2 j1 j2 i3 j3=>by
  obtain⟨x',hx'⟩:=get_some (d:=d) (i:=s) (by omega)
  obtain⟨y',hy'⟩:=get_some (d:=d) (i:=e-1) (by omega)
  have q:=c2 s x' y' (Nat.le_refl _) (by omega) hx' (by rw[show mid+m-1-s=e-1 by omega];exact hy')
  have q1:κ x'≤κ x:=by
   by_cases h:i=s
   ·subst h;rw[hx'] at i3;cases i3;exact Int.le_refl _
   exact k1 s i x' x (by omega) (by omega) i2 hx' i3
  have q2:κ y≤κ y':=by
   by_cases h:j=e-1
   ·subst h;rw[hy'] at j3;cases j3;exact Int.le_refl _
   exact k2 j (e-1) y y' j1 (by omega) (by omega) j3 hy'
  omega
 have hst:Stb κ d (rotL s m e d):=rotL_stb hsm hme fun i j x y i1 i2 j1 j2 i3 j3=>by
  have:=hVU i j x y i1 i2 j1 j2 i3 j3
  omega
 have hAB:∀i j x y,a≤i→i<s→e≤j→j<b→d[i]?=some x→d[j]?=some y→κ x≤κ y:=fun i j x y i1 i2 j1 j2 i3 j3=>by
  by_cases h0:s=s0
  ·omega
  obtain⟨x',hx'⟩:=get_some (d:=d) (i:=s-1) (by omega)
  obtain⟨y',hy'⟩:=get_some (d:=d) (i:=e) (by omega)
  have q:=c1 (s-1) x' y' (by omega) (by omega) hx' (by rw[show mid+m-1-(s-1)=e by omega];exact hy')
  have q1:κ x≤κ x':=by
   by_cases h:i=s-1
   ·subst h;rw[hx'] at i3;cases i3;exact Int.le_refl _
   exact k1 i (s-1) x x' i1 (by omega) (by omega) i3 hx'
  have q2:κ y'≤κ y:=by
   by_cases h:j=e
   ·subst h;rw[hy'] at j3;cases j3;exact Int.le_refl _
   exact k2 e j y' y (by omega) (by omega) j2 hy' j3
  omega
 have e1:Srt κ a s (rotL s m e d):=fun i j x y i1 i2 i3 i4 i5=>by
  rw[G,if_pos (by omega)] at i4 i5
  exact k1 i j x y i1 i2 (by omega) i4 i5
 have e2:Srt κ s mid (rotL s m e d):=fun i j x y i1 i2 i3 i4 i5=>by
  rw[G,if_neg (by omega),if_pos (by omega)] at i4 i5
  exact k2 _ _ x y (by omega) (by omega) (by omega) i4 i5
 have e3:Srt κ mid e (rotL s m e d):=fun i j x y i1 i2 i3 i4 i5=>by
  rw[G,if_neg (by omega),if_neg (by omega),if_pos (by omega)] at i4 i5
  exact k1 _ _ x y (by omega) (by omega) (by omega) i4 i5
 have e4:Srt κ e b (rotL s m e d):=fun i j x y i1 i2 i3 i4 i5=>by
  rw[G,if_neg (by omega),if_neg (by omega),if_neg (by omega)] at i4 i5
  exact k2 _ _ x y (by omega) (by omega) (by omega) i4 i5
 have hcross:∀i j x y,a≤i→i<mid→mid≤j→j<b→(rotL s m e d)[i]?=some x→(rotL s m e d)[j]?=some y→κ x≤κ y:=fun i j x y i1 i2 j1 j2 i3 j3=>by
  rw[G] at i3 j3
  rw[if_neg (by omega),if_neg (by omega)] at j3
  by_cases h1:i<s
  ·rw[if_pos h1] at i3
   by_cases h2:j<e
   ·rw[if_pos h2] at j3
    exact k1 _ _ x y i1 (by omega) (by omega) i3 j3
   rw[if_neg h2] at j3
   exact hAB i j x y i1 h1 (by omega) j2 i3 j3
  rw[if_neg h1,if_pos (by omega)] at i3
  by_cases h2:j<e
  ·rw[if_pos h2] at j3
   have:=hVU _ _ y x (by omega) (by omega) (by omega) (by omega) j3 i3
   omega
  rw[if_neg h2] at j3
  exact k2 _ _ x y (by omega) (by omega) j2 i3 j3
 have hk1:=hk.perm hmv.perm
 obtain⟨f1,f2⟩:=hf.2 hk1 e1 e2
 obtain⟨g1,g2⟩:=hg.2 (hk1.perm hf.1.perm) (hf.1.srt_out e3 (.inr (Nat.le_refl _))) (hf.1.srt_out e4 (.inr (by omega)))
 have f1':=hg.1.srt_out f1 (.inl (Nat.le_refl _))
 refine⟨fun i j x y i1 i2 i3 i4 i5=>?_,(hst.trans f2).trans g2⟩
 by_cases h1:j<mid
 ·exact f1' i j x y i1 i2 h1 i4 i5
 by_cases h2:mid≤i
 ·exact g1 i j x y h2 i2 i3 i4 i5
 obtain⟨u,u1,u2,u3⟩:=hf.1.inn i i1 (by omega)
 obtain⟨v,v1,v2,v3⟩:=hg.1.inn j (by omega) i3
 have q1:=hg.1.out i (by omega)
 rw[q1,u3] at i4
 rw[v3,hf.1.out v (by omega)] at i5
 exact hcross u v x y u1 u2 v1 v2 i4 i5
end
section
variable {α:Type} {lt:α→α→Bool} {κ:α→Int}
def StA (lt:α→α→Bool) (κ:α→Int) (n k:Nat) (d0 d:List α):Prop:=Mv 0 n d0 d∧(KeyOn lt κ d0→Stb κ d0 d∧∀q,q<k→Srt κ (q*20) (q*20+20) d)
def StB (lt:α→α→Bool) (κ:α→Int) (n bs:Nat) (d0 d:List α):Prop:=Mv 0 n d0 d∧(KeyOn lt κ d0→Stb κ d0 d∧∀q,Srt κ (q*bs) (q*bs+bs) d)
def StC (lt:α→α→Bool) (κ:α→Int) (n bs k:Nat) (d0 d:List α):Prop:=Mv 0 n d0 d∧(KeyOn lt κ d0→Stb κ d0 d∧(∀q,q<k→Srt κ (q*(2*bs)) (q*(2*bs)+2*bs) d)∧∀q,2*k≤q→Srt κ (q*bs) (q*bs+bs) d)
theorem StA.start (n:Nat) (d:List α):StA lt κ n 0 d d:=⟨Mv.refl _ _ _,fun _=>⟨Stb.refl _ _,fun q h=>by omega⟩⟩
theorem Srt.far {a b:Nat} {d:List α} (h:d.length≤a):Srt κ a b d:=fun i j x y h1 h2 h3 h4 h5=>by have:=lt_of_get h4;omega
theorem Srt.cut {a b c:Nat} {d:List α} (h:Srt κ a b d) (hc:c≤b∨d.length≤b):Srt κ a c d:=fun i j x y h1 h2 h3 h4 h5=>h i j x y h1 h2 (by have:=lt_of_get h5;omega) h4 h5
theorem StA.step {n k a:Nat} {d0 d d':List α} (h:StA lt κ n k d0 d) (ha:a=k*20) (hn:a+20≤n) (hm:Mv a (a+20) d d') (hs:KeyOn lt κ d→Srt κ a (a+20) d'∧Stb κ d d'):StA lt κ n (k+1) d0 d':=by
 refine⟨h.1.trans (hm.mono (Nat.zero_le _) hn),fun hk=>?_⟩
 obtain⟨h1,h2⟩:=h.2 hk
 obtain⟨g1,g2⟩:=hs (hk.perm h.1.perm)
 refine⟨h1.trans g2,fun q hq=>?_⟩
 by_cases c:q<k
 ·exact hm.srt_out (h2 q c) (.inl (by omega))
 obtain rfl:q=k:=by omega
 rw[←ha];exact g1
theorem StA.last {n k a:Nat} {d0 d d':List α} (h:StA lt κ n k d0 d) (ha:a=k*20) (hn:n<a+20) (hl:d0.length=n) (han:a≤n) (hm:Mv a n d d') (hs:KeyOn lt κ d→Srt κ a n d'∧Stb κ d d'):StB lt κ n 20 d0 d':=by
 have hm2:=h.1.trans (hm.mono (Nat.zero_le _) (Nat.le_refl _))
 refine⟨hm2,fun hk=>?_⟩
 obtain⟨h1,h2⟩:=h.2 hk
 obtain⟨g1,g2⟩:=hs (hk.perm h.1.perm)
 refine⟨h1.trans g2,fun q=>?_⟩
 have hl2:=hm2.len
 by_cases c:q<k
 ·exact hm.srt_out (h2 q c) (.inl (by omega))
 by_cases c2:q=k
 ·subst c2
  rw[←ha];exact g1.cut (.inr (by omega))
 exact Srt.far (by omega)
theorem StB.blocks {n bs:Nat} {d0 d:List α} (h:StB lt κ n bs d0 d):StC lt κ n bs 0 d0 d:=⟨h.1,fun hk=>⟨(h.2 hk).1,fun q hq=>by omega,fun q _=>(h.2 hk).2 q⟩⟩
theorem two_mul_ (k bs:Nat):2*k*bs=k*(2*bs):=by rw[Nat.mul_comm 2 k,Nat.mul_assoc]
theorem StC.step {n bs k a:Nat} {d0 d d':List α} (h:StC lt κ n bs k d0 d) (ha:a=k*(2*bs)) (hn:a+2*bs≤n) (hs:SymR lt κ a (a+bs) (a+2*bs) d d'):StC lt κ n bs (k+1) d0 d':=by
 refine⟨h.1.trans (hs.1.mono (Nat.zero_le _) hn),fun hk=>?_⟩
 obtain⟨h1,h2,h3⟩:=h.2 hk
 have e0:2*k*bs=a:=by rw[ha];exact two_mul_ k bs
 have e1:=h3 (2*k) (Nat.le_refl _)
 have e2:=h3 (2*k+1) (by omega)
 rw[Nat.add_mul,Nat.one_mul,e0] at e2
 rw[e0] at e1
 obtain⟨g1,g2⟩:=hs.2 (hk.perm h.1.perm) e1 (by rw[show a+2*bs=a+bs+bs by omega];exact e2)
 refine⟨h1.trans g2,fun q hq=>?_,fun q hq=>?_⟩
 ·by_cases c:q<k
  ·have:=Nat.mul_le_mul_right (2*bs) (show q+1≤k by omega)
   rw[Nat.add_mul,Nat.one_mul,←ha] at this
   exact hs.1.srt_out (h2 q c) (.inl this)
  obtain rfl:q=k:=by omega
  rw[←ha];exact g1
 have:=Nat.mul_le_mul_right bs (show 2*k+2≤q by omega)
 rw[Nat.add_mul,e0] at this
 exact hs.1.srt_out (h3 q (by omega)) (.inr this)
theorem StC.last1 {n bs k a:Nat} {d0 d d':List α} (h:StC lt κ n bs k d0 d) (ha:a=k*(2*bs)) (hn:n<a+2*bs) (hl:d0.length=n) (hs:SymR lt κ a (a+bs) n d d'):StB lt κ n (2*bs) d0 d':=by
 have hm2:=h.1.trans (hs.1.mono (Nat.zero_le _) (Nat.le_refl _))
 refine⟨hm2,fun hk=>?_⟩
 obtain⟨h1,h2,h3⟩:=h.2 hk
 have hl2:=hm2.len
 have e0:2*k*bs=a:=by rw[ha];exact two_mul_ k bs
 have e1:=h3 (2*k) (Nat.le_refl _)
 have e2:=h3 (2*k+1) (by omega)
 rw[Nat.add_mul,Nat.one_mul,e0] at e2
 rw[e0] at e1
 obtain⟨g1,g2⟩:=hs.2 (hk.perm h.1.perm) e1 (e2.cut (.inl (by omega)))
 refine⟨h1.trans g2,fun q=>?_⟩
 by_cases c:q<k
 ·have:=Nat.mul_le_mul_right (2*bs) (show q+1≤k by omega)
  rw[Nat.add_mul,Nat.one_mul,←ha] at this
  exact hs.1.srt_out (h2 q c) (.inl this)
 by_cases c2:q=k
 ·subst c2
  rw[←ha];exact g1.cut (.inr (by omega))
 have:=Nat.mul_le_mul_right (2*bs) (show k+1≤q by omega)
 rw[Nat.add_mul,Nat.one_mul,←ha] at this
 exact Srt.far (by omega)
theorem StC.last2 {n bs k a:Nat} {d0 d:List α} (h:StC lt κ n bs k d0 d) (ha:a=k*(2*bs)) (hn:n≤a+bs) (hl:d0.length=n):StB lt κ n (2*bs) d0 d:=by
 refine⟨h.1,fun hk=>?_⟩
 obtain⟨h1,h2,h3⟩:=h.2 hk
 have hl2:=h.1.len
 have e0:2*k*bs=a:=by rw[ha];exact two_mul_ k bs
 have e1:=h3 (2*k) (Nat.le_refl _)
 rw[e0] at e1
 refine⟨h1,fun q=>?_⟩
 by_cases c:q<k
 ·exact h2 q c
 by_cases c2:q=k
 ·subst c2
  rw[←ha];exact e1.cut (.inr (by omega))
 have:=Nat.mul_le_mul_right (2*bs) (show k+1≤q by omega)
 rw[Nat.add_mul,Nat.one_mul,←ha] at this
 exact Srt.far (by omega)
def StS (lt:α→α→Bool) (κ:α→Int) (n:Nat) (d d':List α):Prop:=Mv 0 n d d'∧(KeyOn lt κ d→Srt κ 0 n d'∧Stb κ d d')
theorem StB.done {n bs:Nat} {d0 d:List α} (h:StB lt κ n bs d0 d) (hb:n≤bs):StS lt κ n d0 d:=⟨h.1,fun hk=>⟨by
 have:=(h.2 hk).2 0
 rw[Nat.zero_mul,Nat.zero_add] at this
 exact this.cut (.inl hb),(h.2 hk).1⟩⟩
end
end Go.Proofs.YtpojjmbalgmcoaaGreat

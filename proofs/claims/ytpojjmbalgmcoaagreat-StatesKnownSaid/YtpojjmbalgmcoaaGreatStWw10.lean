/- Lemmas: Jpv, Jss, Jpl. -/
import Derived.Test.YtpojjmbalgmcoaaGreatStWw4
import Derived.Test.YtpojjmbalgmcoaaGreatStWw7
import Derived.Test.YtpojjmbalgmcoaaGreatStWw9
set_option linter.unusedVariables false
set_option linter.unusedSimpArgs false
set_option maxRecDepth 100000
set_option maxHeartbeats 16000000
namespace Go.Proofs.YtpojjmbalgmcoaaGreat
open Go.ChangeShapes Go.WideShapes Go.ChangeAt Go.RowKit
def PVal (w:World) (cs:List Value) (p:SPart):Prop:=∃(Ao Av Ac Ai:Option Addr) (no nv nc ni co cv cc ci:Nat),cs=[.int .i64 p.step,.slice Ao no co,.slice Av nv cv,.slice Ac nc cc,.slice Ai ni ci]∧SLen p no nv nc ni∧SIn w p Ao Av Ac Ai ∧
 (no≤9223372036854775807∧nv≤9223372036854775807∧nc≤9223372036854775807∧ni≤9223372036854775807)
def PRow (w:World) (A:Option Addr) (ps:List SPart):Prop:=Els w w.heap.size 5 A ps (PVal w)
theorem SIn.kept {u w:World} {p:SPart} {Ao Av Ac Ai:Option Addr} (h:SIn u p Ao Av Ac Ai) (hk:Kept u w) (hs:u.heap.size≤w.heap.size):SIn w p Ao Av Ac Ai:=
 ⟨(h.own.keep hk).more hs,(h.vals.keep hk).more hs,(h.chg.keep hk).more hs,(h.inb.keep hk).more hs⟩
theorem PVal.kept {u w:World} {cs:List Value} {p:SPart} (h:PVal u cs p) (hk:Kept u w) (hs:u.heap.size≤w.heap.size):PVal w cs p:=by
 obtain⟨Ao,Av,Ac,Ai,no,nv,nc,ni,co,cv,cc,ci,h1,h2,h3,h4⟩:=h
 exact⟨Ao,Av,Ac,Ai,no,nv,nc,ni,co,cv,cc,ci,h1,h2,h3.kept hk hs,h4⟩
theorem PRow.kept {u w:World} {A:Option Addr} {ps:List SPart} (h:PRow u A ps) (hk:Kept u w) (hs:u.heap.size≤w.heap.size):PRow w A ps:=
 Els.more (Els.keep h hk fun _ _ hv=>hv.kept hk hs) hs
theorem PRow.next {u w:World} {A:Option Addr} {ps:List SPart} (h:PRow u A ps) (hb:Below u.heap.size u w):PRow w A ps:=h.kept (Kept.of_below hb) hb.size
theorem PRow.nil (w:World) (A:Option Addr):PRow w A []:=Els.nil_
theorem PRow.get {w:World} {A:Option Addr} {ps:List SPart} (h:PRow w A ps) {i:Nat} {p:SPart} (hp:ps[i]?=some p) :
  ∃b off,A=some ⟨b,off,none⟩∧b<w.heap.size∧∃(Ao Av Ac Ai:Option Addr) (no nv nc ni co cv cc ci:Nat),
   w.cell? ⟨b,off+i*5,none⟩=some (.int .i64 p.step)∧w.cell? ⟨b,off+i*5+1,none⟩=some (.slice Ao no co)∧w.cell? ⟨b,off+i*5+2,none⟩=some (.slice Av nv cv)∧w.cell? ⟨b,off+i*5+3,none⟩=some (.slice Ac nc cc)∧w.cell? ⟨b,off+i*5+4,none⟩=some (.slice Ai ni ci) ∧
   SLen p no nv nc ni∧SIn w p Ao Av Ac Ai∧(no≤9223372036854775807∧nv≤9223372036854775807∧nc≤9223372036854775807∧ni≤9223372036854775807):=by
 obtain⟨b,off,rfl,hb⟩:=Els.at_ h (List.getElem?_eq_some_iff.1 hp).1
 obtain⟨cs,hl,⟨Ao,Av,Ac,Ai,no,nv,nc,ni,co,cv,cc,ci,rfl,h2,h3,h4⟩,hc⟩:=Els.get h hp
 refine⟨b,off,rfl,hb,Ao,Av,Ac,Ai,no,nv,nc,ni,co,cv,cc,ci,?_,?_,?_,?_,?_,h2,h3,h4⟩
 ·exact hc 0 _ rfl
 ·exact hc 1 _ rfl
 ·exact hc 2 _ rfl
 ·exact hc 3 _ rfl
 exact hc 4 _ rfl
section
variable {H:Type} {enc:TypeId×Value→H}
end
def sumOwn (ps:List SPart) (i:Nat):Nat:=((ps.take i).map fun p=>p.own.length).sum
theorem sumOwn_zero (ps:List SPart):sumOwn ps 0=0:=by simp[sumOwn]
theorem sumOwn_succ {ps:List SPart} {i:Nat} {p:SPart} (h:ps[i]?=some p):sumOwn ps (i+1)=sumOwn ps i+p.own.length:=by
 unfold sumOwn
 rw[List.take_add_one,h]
 simp
theorem sumOwn_le {ps:List SPart} (hl:∀p∈ps,p.own.length≤60) (i:Nat) (hi:i≤ps.length):sumOwn ps i≤i*60:=by
 induction i with
 | zero=>simp[sumOwn]
 | succ i ih=>
  have h:i<ps.length:=by omega
  rw[sumOwn_succ (List.getElem?_eq_getElem h)]
  have:=ih (by omega)
  have:=hl _ (List.getElem_mem h)
  omega
def nAll (ps:List SPart):Nat:=sumOwn ps ps.length
def plc (v:Int):List Int→Nat→Int
 | [],_=>-1
 | x :: xs,i=>if x=v then (i:Int) else plc v xs (i+1)
theorem plc_step {xs:List Int} {i:Nat} {x v:Int} (h:xs[i]?=some x):plc v (xs.drop i) i=if x=v then (i:Int) else plc v (xs.drop (i+1)) (i+1):=by
 obtain⟨h1,rfl⟩:=List.getElem?_eq_some_iff.1 h
 rw[List.drop_eq_getElem_cons h1]
 rfl
theorem plc_spec (v:Int):∀(xs:List Int) (i:Nat),(plc v xs i=-1∧v∉xs)∨∃j:Nat,j<xs.length∧plc v xs i=((i+j:Nat):Int)∧xs[j]?=some v
 | [],i => .inl ⟨rfl,by simp⟩
 | x :: xs,i=>by
  unfold plc
  by_cases h:x=v
  ·rw[if_pos h]
   exact .inr ⟨0,by simp,by simp,by simp[h]⟩
  rw[if_neg h]
  rcases plc_spec v xs (i+1) with ⟨h1,h2⟩ | ⟨j,h1,h2,h3⟩
  ·exact .inl ⟨h1,by simp[h2];exact fun e=>h e.symm⟩
  exact .inr ⟨j+1,by simp;omega,by rw[h2];congr 1;omega,by simpa using h3⟩
def wk (ps:List SPart) (v:Nat):SPart:=ps.getD (ofF (v:Int) (ps.length:Int)).toNat ⟨0,[],[],[],[]⟩
def ix (ps:List SPart) (v:Nat):Nat:=(plc (v:Int) (wk ps v).own 0).toNat
def jV (ps:List SPart) (v:Nat):Int:=(wk ps v).vals.getD (ix ps v) 0
def jC (ps:List SPart) (v:Nat):Bool:=(wk ps v).chg.getD (ix ps v) false
def jM (ps:List SPart) (v:Nat):Ml:=(wk ps v).inb.getD (ix ps v) (false,0)
def stepJ (ps:List SPart):Int:=(ps.getD 0 ⟨0,[],[],[],[]⟩).step
def fitJ (ps:List SPart) (w:Nat) (p:SPart):Bool:=rightB p && decide (p.step=stepJ ps) && decide (nAll ps≤512) && decide (p.own=ownUpto (ps.length:Int) (w:Int) (nAll ps))
def okJ (ps:List SPart):Prop:=1≤ps.length∧ps.length≤64∧1≤nAll ps∧∀(w:Nat) (p:SPart),ps[w]?=some p→fitJ ps w p=true
def JoinPost (w:World) (ps:List SPart) (e:Ending) (w':World):Prop:=
 (okJ ps∧∃(A1 A2 A3:Option Addr) (c1 c2 c3:Nat),e = .returned (.tuple #[.agg #[.int .i64 (stepJ ps),.slice A1 (nAll ps) c1,.slice A2 (nAll ps) c2,.slice A3 (nAll ps) c3,.int .i64 0,.int .i64 0],.int .i64 0]) ∧
  Rd w' w'.heap.size A1 (i64s ((List.range (nAll ps)).map (jV ps)))∧Rd w' w'.heap.size A2 (bools ((List.range (nAll ps)).map (jC ps)))∧Rd w' w'.heap.size A3 (mlFlat ((List.range (nAll ps)).map (jM ps)))∧Below w.heap.size w w')
 ∨ (¬okJ ps∧e = .returned (.tuple #[.agg #[.int .i64 0,.slice none 0 0,.slice none 0 0,.slice none 0 0,.int .i64 0,.int .i64 0],.int .i64 4])∧Below w.heap.size w w')
def fillL {α:Type} (f:Nat→α) (z:α) (d:Nat→Bool) (n:Nat):List α:=(List.range n).map fun v=>if d v=true then f v else z
theorem fill_len {α:Type} (f:Nat→α) (z:α) (d:Nat→Bool) (n:Nat):(fillL f z d n).length=n:=by simp[fillL]
theorem fill_set {α:Type} (f:Nat→α) (z:α) (d d':Nat→Bool) (n v:Nat) (x:α) (hx:f v=x) (hd:∀u,u<n→d' u=(d u || u == v)):(fillL f z d n).set v x=fillL f z d' n:=by
 apply List.ext_getElem?
 intro u
 rw[List.getElem?_set]
 unfold fillL
 rw[List.length_map,List.length_range]
 by_cases hu:u<n
 ·rw[List.getElem?_map,List.getElem?_map,List.getElem?_range hu]
  simp only[Option.map_some]
  rw[hd u hu]
  by_cases h:v=u
  ·subst h
   rw[if_pos rfl,if_pos hu]
   simp[hx]
  rw[if_neg h]
  simp[show ¬u=v from fun e=>h e.symm]
 by_cases h:v=u
 ·subst h
  rw[if_pos rfl,if_neg hu,List.getElem?_eq_none (by simp;omega)]
 rw[if_neg h,List.getElem?_eq_none (by simp;omega),List.getElem?_eq_none (by simp;omega)]
theorem fill_none {α:Type} (f:Nat→α) (z:α) (d:Nat→Bool) (n:Nat) (h:∀u,u<n→d u=false):fillL f z d n=List.replicate n z:=by
 apply List.ext_getElem
 ·simp[fillL]
 intro i h1 h2
 simp only[fillL,List.getElem_map,List.getElem_range,List.getElem_replicate]
 rw[fill_len] at h1
 rw[h i h1]
 simp
theorem fill_all {α:Type} (f:Nat→α) (z:α) (d:Nat→Bool) (n:Nat) (h:∀u,u<n→d u=true):fillL f z d n=(List.range n).map f:=by
 unfold fillL
 apply List.map_congr_left
 intro v hv
 rw[h v (List.mem_range.1 hv),if_pos rfl]
theorem i64s_set (l:List Int) (v:Nat) (x:Int):(i64s l).set v (.int .i64 x)=i64s (l.set v x):=by simp[i64s,List.map_set]
theorem made_i (n:Nat):madeCells #[.int .i64 0] n=(i64s (List.replicate n 0)).toArray:=by
 unfold madeCells i64s
 apply Array.ext
 ·simp
 intro i h1 h2;simp[Nat.mod_one]
theorem made_b (n:Nat):madeCells #[.bool false] n=(bools (List.replicate n false)).toArray:=by
 unfold madeCells bools
 apply Array.ext
 ·simp
 intro i h1 h2;simp[Nat.mod_one]
end Go.Proofs.YtpojjmbalgmcoaaGreat
namespace Go.Proofs.YtpojjmbalgmcoaaGreat
open Go.RowKit
theorem six_fin {w wf:World} {H:Nat} {T:TypeId} (z0 z1 z2 z3 z4 z5:Value) (v0 v1 v2 v3 v4 v5:Value) (hw:w.heap.size≤H) (hz:wf.heap[H]?=some (.cells #[z0,z1,z2,z3,z4,z5] T)) (hb:Below w.heap.size w wf) :
  ∃f,((((((wf.setCell ⟨H,0,none⟩ v0).setCell ⟨H,1,none⟩ v1).setCell ⟨H,2,none⟩ v2).setCell ⟨H,3,none⟩ v3).setCell ⟨H,4,none⟩ v4).setCell ⟨H,5,none⟩ v5)=f∧Below w.heap.size w f∧f.heap[H]?=some (.cells #[v0,v1,v2,v3,v4,v5] T)∧f.heap.size=wf.heap.size∧∀b,b≠H→f.heap[b]?=wf.heap[b]?:=by
 have hF0:=hz
 have hF1:=heap_setCell_same _ H 0 _ _ v0 hF0
 have hF2:=heap_setCell_same _ H 1 _ _ v1 hF1
 have hF3:=heap_setCell_same _ H 2 _ _ v2 hF2
 have hF4:=heap_setCell_same _ H 3 _ _ v3 hF3
 have hF5:=heap_setCell_same _ H 4 _ _ v4 hF4
 have hF6:=heap_setCell_same _ H 5 _ _ v5 hF5
 refine⟨_,rfl,((((((hb.setCell (p:=⟨H,0,none⟩) hw v0).setCell (p:=⟨H,1,none⟩) hw v1).setCell (p:=⟨H,2,none⟩) hw v2).setCell (p:=⟨H,3,none⟩) hw v3).setCell (p:=⟨H,4,none⟩) hw v4).setCell (p:=⟨H,5,none⟩) hw v5),hF6,by simp only[World.size_setCell],fun b hb'=>?_⟩
 iterate 6 rw[Below.heap_setCell _ _ _ _ hb']
structure JS (v0:World) (st:Int) (n P B1 B2 B3:Nat) (V:List Int) (C:List Bool) (M:List Ml) (w:World):Prop where
 lo:v0.heap.size≤P∧v0.heap.size≤B1∧v0.heap.size≤B2∧v0.heap.size≤B3
 ne:P≠B1∧P≠B2∧P≠B3∧B1≠B2∧B1≠B3∧B2≠B3
 hP:w.heap[P]?=some (.cells #[.int .i64 st,.slice (some ⟨B1,0,none⟩) n n,.slice (some ⟨B2,0,none⟩) n n,.slice (some ⟨B3,0,none⟩) n n,.int .i64 0,.int .i64 0] 33)
 h1:w.heap[B1]?=some (.cells (i64s V).toArray 2)
 h2:w.heap[B2]?=some (.cells (bools C).toArray 4)
 h3:w.heap[B3]?=some (.cells (mlFlat M).toArray 51)
 lv:V.length=n∧C.length=n∧M.length=n
 hb:Below v0.heap.size v0 w
section
variable {v0 w w':World} {st:Int} {n P B1 B2 B3:Nat} {V:List Int} {C:List Bool} {M:List Ml}
theorem JS.lts (h:JS v0 st n P B1 B2 B3 V C M w):P<w.heap.size∧B1<w.heap.size∧B2<w.heap.size∧B3<w.heap.size:=⟨lt_of_block h.hP,lt_of_block h.h1,lt_of_block h.h2,lt_of_block h.h3⟩
theorem JS.below (h:JS v0 st n P B1 B2 B3 V C M w) (hb:Below w.heap.size w w'):JS v0 st n P B1 B2 B3 V C M w':=
 ⟨h.lo,h.ne,(hb.block _ h.lts.1).trans h.hP,(hb.block _ h.lts.2.1).trans h.h1,(hb.block _ h.lts.2.2.1).trans h.h2,(hb.block _ h.lts.2.2.2).trans h.h3,h.lv,h.hb.trans (hb.mono h.hb.size)⟩
theorem JS.drew (h:JS v0 st n P B1 B2 B3 V C M w):JS v0 st n P B1 B2 B3 V C M w.drew:=⟨h.lo,h.ne,h.hP,h.h1,h.h2,h.h3,h.lv,h.hb.drew⟩
theorem JS.alloc (h:JS v0 st n P B1 B2 B3 V C M w) (o:Obj):JS v0 st n P B1 B2 B3 V C M (w.alloc o):=h.below ((Below.refl _ _).alloc (Nat.le_refl _) _)
theorem JS.keep (h:JS v0 st n P B1 B2 B3 V C M w):Kept v0 w:=Kept.of_below h.hb
theorem JS.store (h:JS v0 st n P B1 B2 B3 V C M w) (v:Nat) (x:Int) (b:Bool) (m:Ml) :
  JS v0 st n P B1 B2 B3 (V.set v x) (C.set v b) (M.set v m) ((((w.setCell ⟨B1,v,none⟩ (.int .i64 x)).setCell ⟨B2,v,none⟩ (.bool b)).setCell ⟨B3,v*2,none⟩ (.bool m.1)).setCell ⟨B3,v*2+1,none⟩ (.int .i64 m.2)):=by
 obtain⟨n1,n2,n3,n4,n5,n6⟩:=h.ne
 obtain⟨l0,l1,l2,l3⟩:=h.lo
 refine⟨h.lo,h.ne,?_,?_,?_,?_,by simpa using h.lv,(((h.hb.setCell (p:=⟨B1,v,none⟩) l1 _).setCell (p:=⟨B2,v,none⟩) l2 _).setCell (p:=⟨B3,v*2,none⟩) l3 _).setCell (p:=⟨B3,v*2+1,none⟩) l3 _⟩
 ·rw[Below.heap_setCell _ _ _ _ n3,Below.heap_setCell _ _ _ _ n3,Below.heap_setCell _ _ _ _ n2,Below.heap_setCell _ _ _ _ n1]
  exact h.hP
 ·rw[Below.heap_setCell _ _ _ _ n5,Below.heap_setCell _ _ _ _ n5,Below.heap_setCell _ _ _ _ n4,heap_setCell_same _ B1 v _ _ _ h.h1,←i64s_set]
  simp
 ·rw[Below.heap_setCell _ _ _ _ n6,Below.heap_setCell _ _ _ _ n6]
  have h2:(w.setCell ⟨B1,v,none⟩ (.int .i64 x)).heap[B2]?=some (.cells (bools C).toArray 4):=by rw[Below.heap_setCell _ _ _ _ (Ne.symm n4)];exact h.h2
  rw[heap_setCell_same _ B2 v _ _ _ h2,←bools_set]
  simp
 have h3:((w.setCell ⟨B1,v,none⟩ (.int .i64 x)).setCell ⟨B2,v,none⟩ (.bool b)).heap[B3]?=some (.cells (mlFlat M).toArray 51):=by
  rw[Below.heap_setCell _ _ _ _ (Ne.symm n6),Below.heap_setCell _ _ _ _ (Ne.symm n5)];exact h.h3
 have h4:=heap_setCell_same _ B3 (v*2) _ _ (.bool m.1) h3
 rw[heap_setCell_same _ B3 (v*2+1) _ _ (.int .i64 m.2) h4,←mlFlat_set]
 simp
theorem js_six {u4:World} (lo:v0.heap.size≤P∧v0.heap.size≤B1∧v0.heap.size≤B2∧v0.heap.size≤B3) (hne:P≠B1∧P≠B2∧P≠B3∧B1≠B2∧B1≠B3∧B2≠B3) (s1 s2 s3:Value) (e1:s1 = .slice (some ⟨B1,0,none⟩) n n) (e2:s2 = .slice (some ⟨B2,0,none⟩) n n) (e3:s3 = .slice (some ⟨B3,0,none⟩) n n)
  (hP:u4.heap[P]?=some (.cells #[.int .i64 0,.slice none 0 0,.slice none 0 0,.slice none 0 0,.int .i64 0,.int .i64 0] 33))
  (h1:u4.heap[B1]?=some (.cells (madeCells #[.int .i64 0] n) 2)) (h2:u4.heap[B2]?=some (.cells (madeCells #[.bool false] n) 4)) (h3:u4.heap[B3]?=some (.cells (madeCells #[.bool false,.int .i64 0] (n*2)) 51)) (hb:Below v0.heap.size v0 u4) :
  JS v0 st n P B1 B2 B3 (List.replicate n 0) (List.replicate n false) (List.replicate n (false,0)) ((((((u4.setCell ⟨P,0,none⟩ (.int .i64 st)).setCell ⟨P,1,none⟩ s1).setCell ⟨P,2,none⟩ s2).setCell ⟨P,3,none⟩ s3).setCell ⟨P,4,none⟩ (.int .i64 0)).setCell ⟨P,5,none⟩ (.int .i64 0)):=by
 obtain⟨n1,n2,n3,n4,n5,n6⟩:=hne
 subst e1 e2 e3
 obtain⟨f,hf,hfb,hfP,_,ho⟩:=six_fin _ _ _ _ _ _ (.int .i64 st) (.slice (some ⟨B1,0,none⟩) n n) (.slice (some ⟨B2,0,none⟩) n n) (.slice (some ⟨B3,0,none⟩) n n) (.int .i64 0) (.int .i64 0) lo.1 hP hb
 rw[hf]
 refine⟨lo,⟨n1,n2,n3,n4,n5,n6⟩,hfP,?_,?_,?_,by simp,hfb⟩
 ·rw[ho B1 (Ne.symm n1),h1,made_i]
 ·rw[ho B2 (Ne.symm n2),h2,made_b]
 rw[ho B3 (Ne.symm n3),h3,made_m]
end
def JMid (w v0:World) (st:Int) (n:Nat) (v7:Value) (wc:World):Prop:=∃P B1 B2 B3,v7 = .pointer (some ⟨P,0,none⟩)∧JS v0 st n P B1 B2 B3 (List.replicate n 0) (List.replicate n false) (List.replicate n (false,0)) wc
def dnW (k i u:Nat):Bool:=decide (0≤ofF (u:Int) (k:Int)) && decide (ofF (u:Int) (k:Int)<(i:Int))
def dnI (k i:Nat) (l:List Int) (u:Nat):Bool:=dnW k i u || l.contains (u:Int)
theorem dnW_zero (k u:Nat):dnW k 0 u=false:=by
 unfold dnW
 rw[Bool.and_eq_false_iff]
 by_cases h:0≤ofF (u:Int) (k:Int)
 ·exact .inr (decide_eq_false (by omega))
 exact .inl (decide_eq_false h)
theorem dnI_nil (k i u:Nat):dnI k i [] u=dnW k i u:=by simp[dnI]
theorem dnI_step {k i u j:Nat} {own:List Int} {v:Nat} (h:own[j]?=some (v:Int)):dnI k i (own.take (j+1)) u=(dnI k i (own.take j) u || u == v):=by
 unfold dnI
 rw[List.take_add_one,h,Bool.or_assoc]
 congr 1
 rw[Bool.eq_iff_iff]
 simp only[Option.toList_some,List.contains_iff_mem,List.mem_append,List.mem_singleton,Bool.or_eq_true,beq_iff_eq]
 constructor
 ·rintro (h1 | h1)
  ·exact .inl h1
  exact .inr (by omega)
 rintro (h1 | h1)
 ·exact .inl h1
 exact .inr (by omega)
theorem own_mem {k i n u:Nat} (hu:u<n):((ownUpto (k:Int) (i:Int) n).contains (u:Int))=decide (ofF (u:Int) (k:Int)=(i:Int)):=by
 rw[Bool.eq_iff_iff]
 simp only[List.contains_iff_mem,decide_eq_true_eq,ownUpto,List.mem_filter,List.mem_map,List.mem_range,sel,Bool.and_eq_true]
 constructor
 ·rintro ⟨_,_,h⟩;exact h
 intro h;exact⟨⟨u,hu,rfl⟩,by omega,h⟩
theorem dnI_full {k i n u:Nat} (hu:u<n):dnI k i (ownUpto (k:Int) (i:Int) n) u=dnW k (i+1) u:=by
 unfold dnI
 rw[own_mem hu]
 unfold dnW
 rw[Bool.eq_iff_iff]
 simp only[Bool.or_eq_true,Bool.and_eq_true,decide_eq_true_eq]
 omega
theorem dnW_all {k n u:Nat} (hu:u<n) (hn:n≤512) (h1:1≤k) (h2:k≤64):dnW k k u=true:=by
 have:=ofF_ok (u:Int) (k:Int) (by omega) (by omega) (by omega) (by omega)
 unfold dnW
 simp only[Bool.and_eq_true,decide_eq_true_eq]
 exact this
theorem fill_congr {α:Type} (f:Nat→α) (z:α) (d d':Nat→Bool) (n:Nat) (h:∀u,u<n→d u=d' u):fillL f z d n=fillL f z d' n:=by
 unfold fillL
 apply List.map_congr_left
 intro v hv
 rw[h v (List.mem_range.1 hv)]
theorem plc_own (k i n j v:Nat) (h:(ownUpto (k:Int) (i:Int) n)[j]?=some (v:Int)):plc (v:Int) (ownUpto (k:Int) (i:Int) n) 0=(j:Int):=by
 have hnd:(ownUpto (k:Int) (i:Int) n).Nodup:=by
  unfold ownUpto
  refine List.Pairwise.filter _ ?_
  rw[List.pairwise_map]
  exact List.nodup_range.imp fun h e=>h (by omega)
 rcases plc_spec (v:Int) (ownUpto (k:Int) (i:Int) n) 0 with ⟨_,h2⟩ | ⟨j',h1,h2,h3⟩
 ·exact absurd (List.mem_of_getElem? h) h2
 rw[h2]
 obtain⟨a1,a2⟩:=List.getElem?_eq_some_iff.1 h
 obtain⟨b1,b2⟩:=List.getElem?_eq_some_iff.1 h3
 have:j'=j:=(List.getElem_inj hnd).1 (b2.trans a2.symm)
 omega
theorem own_of {k i n j v:Nat} (h:(ownUpto (k:Int) (i:Int) n)[j]?=some (v:Int)):ofF (v:Int) (k:Int)=(i:Int)∧v<n:=by
 have:=List.mem_of_getElem? h
 unfold ownUpto at this
 rw[List.mem_filter,List.mem_map] at this
 obtain⟨⟨u,hu,he⟩,hs⟩:=this
 unfold sel at hs
 simp only[Bool.and_eq_true,decide_eq_true_eq] at hs
 have:u=v:=by omega
 subst this
 exact⟨hs.2,List.mem_range.1 hu⟩
theorem own_nat_ {k i n j:Nat} {x:Int} (h:(ownUpto (k:Int) (i:Int) n)[j]?=some x):∃v:Nat,x=(v:Int):=by
 have:=List.mem_of_getElem? h
 unfold ownUpto at this
 rw[List.mem_filter,List.mem_map] at this
 obtain⟨⟨u,hu,he⟩,_⟩:=this
 exact⟨u,he.symm⟩
theorem j_at {ps:List SPart} {i n j v:Nat} {p:SPart} (hp:ps[i]?=some p) (ho:p.own=ownUpto (ps.length:Int) (i:Int) n) (h:p.own[j]?=some (v:Int)):wk ps v=p∧ix ps v=j:=by
 rw[ho] at h
 obtain⟨h1,h2⟩:=own_of h
 have hw:wk ps v=p:=by
  unfold wk
  rw[h1,Int.toNat_natCast,List.getD_eq_getElem?_getD,hp]
  rfl
 refine⟨hw,?_⟩
 unfold ix
 rw[hw,ho,plc_own _ _ _ _ _ h,Int.toNat_natCast]
theorem fit_iff {ps:List SPart} {w:Nat} {p:SPart}:fitJ ps w p=true↔rightB p=true∧p.step=stepJ ps∧nAll ps≤512∧p.own=ownUpto (ps.length:Int) (w:Int) (nAll ps):=by
 unfold fitJ
 simp only[Bool.and_eq_true,decide_eq_true_eq,and_assoc]
theorem rplace_any (w:World) (A:Option Addr) (xs:List Int) (n c:Nat) (v:Int) (hx:xs.length=n) (hn:n≤9223372036854775807) (rx:Rd w w.heap.size A (i64s xs)) :
  Calls Tryz.prog 68 #[.slice A n c,.int .i64 v] w fun e w'=>e = .returned (.int .i64 (plc v xs 0))∧w'=w:=by
 have HX:=hide hx
 have RX:=hide rx
 clear hx rx
 go_enter Tryz.func68,Tryz.ntmps68
 go_wp2
 go_loopw [5] (fun vi wr=>∃i:Nat,i≤n∧vi = .int .i64 i∧Hid (plc v xs 0=plc v (xs.drop i) i)∧wr=w) (fun vi _=>n-(intOf vi).toNat)
 case atStart=>exact⟨0,by omega,rfl,hide rfl,rfl⟩
 case round=>
  obtain⟨i,hi,rfl,hp,rfl⟩:=hrel
  by_cases hlt:i<n
  ·obtain⟨x,hx⟩:∃x,xs[i]?=some x:=⟨_,List.getElem?_eq_getElem (by rw[HX.out];exact hlt)⟩
   obtain⟨b,off,rfl,hb,hc⟩:=RX.out.at1 (i64s_get hx)
   have HS:=hide (plc_step (v:=v) hx)
   have hI0:(0:Int)≤(i:Int):=by omega
   have hI1:(i:Int)<(n:Int):=by omega
   clear hx
   by_cases hxv:x=v
   ·have HE:Hid (plc v xs 0=(i:Int)):=hide (by rw[hp.out,HS.out,if_pos hxv])
    subst hxv
    go_wp2
    go_ret
    exact⟨ret_n HE.out.symm,rfl⟩
   have HE:Hid (plc v xs 0=plc v (xs.drop (i+1)) (i+1)):=hide (by rw[hp.out,HS.out,if_neg hxv])
   have hxv1:(x == v)=false:=by simpa using hxv
   clear hxv
   go_wp2
   go_roundw
   case rel=>exact⟨i+1,by omega,by go_num,HE,by first | trivial | rfl⟩
   case measure=>simp[intOf];omega
  obtain rfl:i=n:=by omega
  have HE:Hid (plc v xs 0=-1):=hide (by rw[hp.out,List.drop_of_length_le (by rw[HX.out];exact Nat.le_refl _)];rfl)
  go_wp2
  go_ret
  exact⟨ret_n HE.out.symm,rfl⟩
end Go.Proofs.YtpojjmbalgmcoaaGreat

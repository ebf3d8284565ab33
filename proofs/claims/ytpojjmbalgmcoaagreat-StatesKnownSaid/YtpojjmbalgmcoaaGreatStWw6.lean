/- Lemmas: Reg, Rgl, Rg2, Rg4, Ap1, Oap, Sto. -/
import Derived.Deep.RegionHeld3
import Derived.Deep.RegionLaw
import Derived.Test.YtpojjmbalgmcoaaGreatStWw1
set_option linter.unusedVariables false
set_option linter.unusedSimpArgs false
set_option maxRecDepth 100000
set_option maxHeartbeats 16000000
namespace Go.Proofs.YtpojjmbalgmcoaaGreat
open Go.RowKit
theorem take_at {P:Program} {md:Region.Mode} {ops:Array Oper} {Q:Exit→Act→World→Prop} {S:World→Prop} {i d:Nat} {oi:Oper} {v:Value} {fuel:Nat} {listed:Array Bool} {a:Act} {w:World} (hi:ops[i]?=some oi) (hd:oi.dst=some d)
  (hs:Region.noSelect ops=true) (hf:Region.free md ops listed i=true) (hr:(Region.ready md ops listed).contains i=true)
  (hQ:∀c a w,Q (.panic c) { a with tmps:=a.tmps.setIfInBounds d v } w→Q (.panic c) a w) (hw:Region.wanted oi (yielded ops a.tmps)=true) (hy:∀w,S w→(execOp a.eval oi).run P w = .ok (.value v) w) (hS:S w)
  (h:wpAnyH P md ops Q S fuel (listed.setIfInBounds i true) { a with tmps:=a.tmps.setIfInBounds d v } w):wpAnyH P md ops Q S (fuel+1) listed a w:=by
 refine wpAnyH_take hi hs hf hr (by rw[hd];exact hQ) (Or.inl ⟨hw,hy⟩) hS ?_
 rw[hd]
 exact h
theorem skip_at {P:Program} {md:Region.Mode} {ops:Array Oper} {Q:Exit→Act→World→Prop} {S:World→Prop} {i d:Nat} {oi:Oper} {fuel:Nat} {listed:Array Bool} {a:Act} {w:World} (hi:ops[i]?=some oi) (hd:oi.dst=some d)
  (hs:Region.noSelect ops=true) (hf:Region.free md ops listed i=true) (hr:(Region.ready md ops listed).contains i=true)
  (hQ:∀c a w,Q (.panic c) { a with tmps:=a.tmps.setIfInBounds d undef } w→Q (.panic c) a w) (hw:Region.wanted oi (yielded ops a.tmps)=false) (hS:S w)
  (h:wpAnyH P md ops Q S fuel (listed.setIfInBounds i true) { a with tmps:=a.tmps.setIfInBounds d undef } w):wpAnyH P md ops Q S (fuel+1) listed a w:=by
 refine wpAnyH_take hi hs hf hr (by rw[hd];exact hQ) (Or.inr ⟨hw,rfl⟩) hS ?_
 rw[hd]
 exact h
theorem call_at {P:Program} {md:Region.Mode} {ops:Array Oper} {Q:Exit→Act→World→Prop} {S:World→Prop} {i d:Nat} {o:Oper} {fuel:Nat} {listed:Array Bool} {a:Act} {w:World} (hi:ops[i]?=some o) (hd:o.dst=some d)
  (hr:Region.ready md ops listed=[i]) (hw:Region.wanted o (yielded ops a.tmps)=true)
  (h:∀K':Act→World→Prop,Shut (∀a w,S w→(S w→wpAnyH P md ops Q S fuel (listed.setIfInBounds i true) a w)→K' a w)→Oper.wp P o a w K' Q):wpAnyH P md ops Q S (fuel+1) listed a w:=by
 refine wpAnyH_ready (rs:=[i]) hr (by simp) (AllReadyH.cons hi (fun K hK=>?_) AllReadyH.nil)
 rw[if_pos hw]
 exact h K hK
theorem zqa {α:Type} {l:List α} {i:Nat}:l.toArray[i]?=l[i]?:=List.getElem?_toArray
theorem zqb {α:Type} {a:α} {l:List α} {i:Nat}:(a :: l)[i+1]?=l[i]?:=List.getElem?_cons_succ
theorem zqc {α:Type} {a:α} {l:List α}:(a :: l)[0]?=some a:=List.getElem?_cons_zero
theorem zqd {α:Type} {l:List α} {i:Nat} {a:α}:l.toArray.setIfInBounds i a=(l.set i a).toArray:=List.setIfInBounds_toArray _ _ _
theorem zqe {α:Type} {x y:α} {l:List α}:(x :: l).set 0 y=y :: l:=List.set_cons_zero
theorem zqf {α:Type} {x y:α} {l:List α} {i:Nat}:(x :: l).set (i+1) y=x :: l.set i y:=List.set_cons_succ
theorem tk {P:Program} {md:Region.Mode} {ops:Array Oper} {Q:Exit→Act→World→Prop} {S:World→Prop} (i d:Nat) (v:Value) {oi:Oper} {fuel:Nat} {listed:Array Bool} {a:Act} {w:World}
  (hy:∀w,S w→(execOp a.eval oi).run P w = .ok (.value v) w)
  (h:wpAnyH P md ops Q S fuel (listed.setIfInBounds i true) { a with tmps:=a.tmps.setIfInBounds d v } w)
  (hi:ops[i]?=some oi:=by simp only[zqa,zqb,zqc];rfl) (hd:oi.dst=some d:=by rfl)
  (hc:(Region.noSelect ops && (Region.free md ops listed i && (Region.ready md ops listed).contains i))=true:=by kernel_rfl)
  (hQ:∀c a w,Q (.panic c) { a with tmps:=a.tmps.setIfInBounds d v } w→Q (.panic c) a w:=by exact fun _ _ _ h=>h) (hw:Region.wanted oi (yielded ops a.tmps)=true:=by rfl) (hS:S w:=by assumption):wpAnyH P md ops Q S (fuel+1) listed a w:=by
 have h1:=Bool.and_eq_true_iff.1 hc
 have h2:=Bool.and_eq_true_iff.1 h1.2
 exact take_at hi hd h1.1 h2.1 h2.2 hQ hw hy hS h
theorem sk {P:Program} {md:Region.Mode} {ops:Array Oper} {Q:Exit→Act→World→Prop} {S:World→Prop} (i d:Nat) {oi:Oper} {fuel:Nat} {listed:Array Bool} {a:Act} {w:World}
  (h:wpAnyH P md ops Q S fuel (listed.setIfInBounds i true) { a with tmps:=a.tmps.setIfInBounds d undef } w)
  (hi:ops[i]?=some oi:=by simp only[zqa,zqb,zqc];rfl) (hd:oi.dst=some d:=by rfl)
  (hc:(Region.noSelect ops && (Region.free md ops listed i && (Region.ready md ops listed).contains i))=true:=by kernel_rfl)
  (hQ:∀c a w,Q (.panic c) { a with tmps:=a.tmps.setIfInBounds d undef } w→Q (.panic c) a w:=by exact fun _ _ _ h=>h) (hw:Region.wanted oi (yielded ops a.tmps)=false:=by rfl) (hS:S w:=by assumption):wpAnyH P md ops Q S (fuel+1) listed a w:=by
 have h1:=Bool.and_eq_true_iff.1 hc
 have h2:=Bool.and_eq_true_iff.1 h1.2
 exact skip_at hi hd h1.1 h2.1 h2.2 hQ hw hS h
theorem tka {P:Program} {md:Region.Mode} {ops:Array Oper} {Q:Exit→Act→World→Prop} {S:World→Prop} (i d:Nat) {v:Value} {oi:Oper} {fuel:Nat} {listed l2:Array Bool} {a a2:Act} {w:World}
  (h:wpAnyH P md ops Q S fuel l2 a2 w)
  (hi:ops[i]?=some oi:=by simp only[zqa,zqb,zqc];rfl) (hd:oi.dst=some d:=by rfl)
  (hc:(Region.noSelect ops && (Region.free md ops listed i && (Region.ready md ops listed).contains i))=true:=by kernel_rfl)
  (hy:∀w,S w→(execOp a.eval oi).run P w = .ok (.value v) w:=by intro w h;go_simp;(try with_reducible rfl))
  (hl:listed.setIfInBounds i true=l2:=by (try simp only[zqd,zqe,zqf]);rfl) (ha:{ a with tmps:=a.tmps.setIfInBounds d v }=a2:=by (try simp only[zqd,zqe,zqf]);rfl)
  (hQ:∀c a w,Q (.panic c) { a with tmps:=a.tmps.setIfInBounds d v } w→Q (.panic c) a w:=by exact fun _ _ _ h=>h) (hw:Region.wanted oi (yielded ops a.tmps)=true:=by rfl) (hS:S w:=by assumption):wpAnyH P md ops Q S (fuel+1) listed a w:=by
 subst hl ha
 have h1:=Bool.and_eq_true_iff.1 hc
 have h2:=Bool.and_eq_true_iff.1 h1.2
 exact take_at hi hd h1.1 h2.1 h2.2 hQ hw hy hS h
theorem ska {P:Program} {md:Region.Mode} {ops:Array Oper} {Q:Exit→Act→World→Prop} {S:World→Prop} (i d:Nat) {oi:Oper} {fuel:Nat} {listed l2:Array Bool} {a a2:Act} {w:World}
  (h:wpAnyH P md ops Q S fuel l2 a2 w)
  (hi:ops[i]?=some oi:=by simp only[zqa,zqb,zqc];rfl) (hd:oi.dst=some d:=by rfl)
  (hc:(Region.noSelect ops && (Region.free md ops listed i && (Region.ready md ops listed).contains i))=true:=by kernel_rfl)
  (hl:listed.setIfInBounds i true=l2:=by (try simp only[zqd,zqe,zqf]);rfl) (ha:{ a with tmps:=a.tmps.setIfInBounds d undef }=a2:=by (try simp only[zqd,zqe,zqf]);rfl)
  (hQ:∀c a w,Q (.panic c) { a with tmps:=a.tmps.setIfInBounds d undef } w→Q (.panic c) a w:=by exact fun _ _ _ h=>h) (hw:Region.wanted oi (yielded ops a.tmps)=false:=by rfl) (hS:S w:=by assumption):wpAnyH P md ops Q S (fuel+1) listed a w:=by
 subst hl ha
 have h1:=Bool.and_eq_true_iff.1 hc
 have h2:=Bool.and_eq_true_iff.1 h1.2
 exact skip_at hi hd h1.1 h2.1 h2.2 hQ hw hS h
theorem ck {P:Program} {md:Region.Mode} {ops:Array Oper} {Q:Exit→Act→World→Prop} {S:World→Prop} (i d:Nat) {o:Oper} {fuel:Nat} {listed:Array Bool} {a:Act} {w:World}
  (h:∀K':Act→World→Prop,Shut (∀a w,S w→(S w→wpAnyH P md ops Q S fuel (listed.setIfInBounds i true) a w)→K' a w)→Oper.wp P o a w K' Q)
  (hi:ops[i]?=some o:=by simp only[zqa,zqb,zqc];rfl) (hd:o.dst=some d:=by rfl)
  (hr:Region.ready md ops listed=[i]:=by kernel_rfl) (hw:Region.wanted o (yielded ops a.tmps)=true:=by rfl):wpAnyH P md ops Q S (fuel+1) listed a w:=call_at hi hd hr hw h
def waitsFor (md:Region.Mode) (ops:Array Oper) (j i:Nat):Bool:=match ops[j]? with
 | none=>false
 | some o=>o.after.toList.any fun e=>Region.binds md e && e.on == i
def exWait (md:Region.Mode) (ops:Array Oper) (ex:List Nat) (i:Nat):Bool:=ex.all fun j=>j == i || waitsFor md ops j i
section
variable {P:Program} {ops:Array Oper} {Q:Exit→Act→World→Prop} {md:Region.Mode} {S:World→Prop} {ex:List Nat}
def wpAnyL (P:Program) (md:Region.Mode) (ops:Array Oper) (Q:Exit→Act→World→Prop) (S:World→Prop) (ex:List Nat):Nat→Array Bool→Act→World→Prop
 | 0,listed,a,w=>Region.ready md ops listed=[]∧Q .normal a w
 | fuel+1,listed,a,w=>(Region.ready md ops listed=[]→Q .normal a w) ∧
   ∀i∈Region.ready md ops listed,wpOp P ops Q i (fun a' w'=>(ex.contains i=false→S w→S w')∧wpAnyL P md ops Q S ex fuel (listed.setIfInBounds i true) a' w') a w
theorem wpAny_of_L:∀(fuel:Nat) (listed:Array Bool) (a:Act) (w:World),wpAnyL P md ops Q S ex fuel listed a w→wpAny P md ops Q fuel listed a w
 | 0,_,_,_,h=>h
 | fuel+1,_,_,_,h=>⟨h.1,fun i hi=>wpOp_mono (fun a' w' h'=>wpAny_of_L fuel _ a' w' h'.2) (h.2 i hi)⟩
theorem wpAnyL_first {T:World→Prop} {i:Nat} {oi:Oper} {v:Value} (hi:ops[i]?=some oi) (hsel:∀(j:Nat) (o:Oper) cs b,ops[j]?=some o→o.op≠.select cs b)
  (hQ:∀c a w,Q (.panic c) (a.put oi.dst v) w→Q (.panic c) a w)
  (hT:∀j oj,ops[j]?=some oj→j≠i→(∀e∈oj.after,Region.binds md e=true→e.on≠i)→∀w w',(ex.contains j=false→S w→S w')→T w→T w') (fuel:Nat):∀(listed:Array Bool) (a:Act) (w:World),
   (∀j oj,ops[j]?=some oj→j≠i→listed.getD j true=false→(∀e∈oj.after,Region.binds md e=true→e.on≠i)→oi.apart ops oj=true) →
   i∈Region.ready md ops listed→YieldsIf P ops T oi v a→T w →
   wpAnyL P md ops Q S ex fuel (listed.setIfInBounds i true) (a.put oi.dst v) w→wpAnyL P md ops Q S ex (fuel+1) listed a w:=by
 induction fuel with
 | zero=>
  intro listed a w _ hr hy hS hrest
  refine⟨fun h=>absurd hr (by rw[h];simp),fun j hj=>?_⟩
  rcases Classical.em (j=i) with rfl | hne
  ·exact hy.wpOp hi hS ⟨fun _ h=>h,hrest⟩
  have hstill:=ready_mono hj hne
  rw[hrest.1] at hstill
  exact absurd hstill (by simp)
 | succ fuel ih=>
  intro listed a w hfree hr hy hS hrest
  refine⟨fun h=>absurd hr (by rw[h];simp),fun j hj=>?_⟩
  rcases Classical.em (j=i) with rfl | hne
  ·exact hy.wpOp hi hS ⟨fun _ h=>h,hrest⟩
  obtain⟨hun,oj,hoj,hafter⟩:=mem_ready.1 hj
  have hiu:=(mem_ready.1 hr).1
  have hno:∀e∈oj.after,Region.binds md e=true→e.on≠i:=by
   intro e he hb heq
   have hl:=hafter e he hb
   rw[heq] at hl
   rcases Nat.lt_or_ge i listed.size with hs | hs
   ·simp[hs] at hl hiu
    rw[hiu] at hl
    cases hl
   simp[Array.getElem?_eq_none hs] at hl
  have hput:=wpOp_putIf hoj (hfree j oj hoj hne hun hno) (fun cs b=>hsel i oi cs b hi) (fun cs b=>hsel j oj cs b hoj) hQ hy (hrest.2 j (ready_mono hj hne))
  refine wpOp_mono (fun a' w' hk=>?_) hput
  have hS':T w':=hT j oj hoj hne hno w w' hk.2.1 hS
  refine⟨hk.2.1,ih _ a' w' ?_ (ready_mono hr (Ne.symm hne)) hk.1 hS' ?_⟩
  ·intro k ok hok hki hku hkn
   refine hfree k ok hok hki ?_ hkn
   rcases Classical.em (j=k) with rfl | hjk
   ·exact hun
   rwa [getD_set_ne true hjk] at hku
  rw[Array.setIfInBounds_comm _ _ hne]
  exact hk.2.2
theorem keeps_S {i:Nat} (h:exWait md ops ex i=true):∀j oj,ops[j]?=some oj→j≠i→(∀e∈oj.after,Region.binds md e=true→e.on≠i)→∀w w',(ex.contains j=false→S w→S w')→S w→S w':=by
 intro j oj hoj hne hno w w' hk hS
 refine hk ?_ hS
 cases hc:ex.contains j with
 | false=>rfl
 | true=>
  have:=List.all_eq_true.1 h j (by simpa using hc)
  rw[Bool.or_eq_true] at this
  rcases this with h1 | h1
  ·exact absurd (by simpa using h1) hne
  unfold waitsFor at h1
  rw[hoj] at h1
  obtain⟨e,he,h2⟩:=List.any_eq_true.1 h1
  rw[Bool.and_eq_true] at h2
  exact absurd (by simpa using h2.2) (hno e (by simpa using he) h2.1)
theorem wpAnyL_done {listed:Array Bool} {a:Act} {w:World} (hr:Region.ready md ops listed=[]) (h:Q .normal a w):∀fuel,wpAnyL P md ops Q S ex fuel listed a w
 | 0=>⟨hr,h⟩
 | _+1=>⟨fun _=>h,by rw[hr];intro i hi;cases hi⟩
theorem wpAnyL_firstU {U:List Nat} {i:Nat} {oi:Oper} {v:Value} (hi:ops[i]?=some oi) (hsel:∀(j:Nat) (o:Oper) cs b,ops[j]?=some o→o.op≠.select cs b)
  (hQ:∀c a w,Q (.panic c) (a.put oi.dst v) w→Q (.panic c) a w) (hU:(U.all fun u=>u == i || U.any fun p=>waitsFor md ops u p)=true) (hx:(ex.all fun j=>j == i || U.contains j)=true) (fuel:Nat):∀(listed:Array Bool) (a:Act) (w:World),
   (∀j oj,ops[j]?=some oj→j≠i→listed.getD j true=false→(∀e∈oj.after,Region.binds md e=true→e.on≠i)→oi.apart ops oj=true) →
   i∈Region.ready md ops listed→(∀u∈U,listed.getD u false=false)→YieldsIf P ops S oi v a→S w →
   wpAnyL P md ops Q S ex fuel (listed.setIfInBounds i true) (a.put oi.dst v) w→wpAnyL P md ops Q S ex (fuel+1) listed a w:=by
 induction fuel with
 | zero=>
  intro listed a w _ hr _ hy hS hrest
  refine⟨fun h=>absurd hr (by rw[h];simp),fun j hj=>?_⟩
  rcases Classical.em (j=i) with rfl | hne
  ·exact hy.wpOp hi hS ⟨fun _ h=>h,hrest⟩
  have hstill:=ready_mono hj hne
  rw[hrest.1] at hstill
  exact absurd hstill (by simp)
 | succ fuel ih=>
  intro listed a w hfree hr hul hy hS hrest
  refine⟨fun h=>absurd hr (by rw[h];simp),fun j hj=>?_⟩
  rcases Classical.em (j=i) with rfl | hne
  ·exact hy.wpOp hi hS ⟨fun _ h=>h,hrest⟩
  obtain⟨hun,oj,hoj,hafter⟩:=mem_ready.1 hj
  have hiu:=(mem_ready.1 hr).1
  have hno:∀e∈oj.after,Region.binds md e=true→e.on≠i:=by
   intro e he hb heq
   have hl:=hafter e he hb
   rw[heq] at hl
   rcases Nat.lt_or_ge i listed.size with hs | hs
   ·simp[hs] at hl hiu
    rw[hiu] at hl
    cases hl
   simp[Array.getElem?_eq_none hs] at hl
  have hjU:j∉U:=fun hm=>by
   have h1:=List.all_eq_true.1 hU j hm
   rw[Bool.or_eq_true] at h1
   rcases h1 with h1 | h1
   ·exact hne (by simpa using h1)
   obtain⟨p,hp,hw⟩:=List.any_eq_true.1 h1
   unfold waitsFor at hw
   rw[hoj] at hw
   obtain⟨e,he,h2⟩:=List.any_eq_true.1 hw
   rw[Bool.and_eq_true] at h2
   have h3:=hafter e (by simpa using he) h2.1
   have h4:e.on=p:=by simpa using h2.2
   rw[h4,hul p hp] at h3
   cases h3
  have hjx:ex.contains j=false:=by
   cases hc:ex.contains j with
   | false=>rfl
   | true=>
    have h1:=List.all_eq_true.1 hx j (by simpa using hc)
    rw[Bool.or_eq_true] at h1
    rcases h1 with h1 | h1
    ·exact absurd (by simpa using h1) hne
    exact absurd (by simpa using h1) hjU
  have hput:=wpOp_putIf hoj (hfree j oj hoj hne hun hno) (fun cs b=>hsel i oi cs b hi) (fun cs b=>hsel j oj cs b hoj) hQ hy (hrest.2 j (ready_mono hj hne))
  refine wpOp_mono (fun a' w' hk=>?_) hput
  refine⟨hk.2.1,ih _ a' w' ?_ (ready_mono hr (Ne.symm hne)) (fun u hu=>?_) hk.1 (hk.2.1 hjx hS) ?_⟩
  ·intro k ok hok hki hku hkn
   refine hfree k ok hok hki ?_ hkn
   rcases Classical.em (j=k) with rfl | hjk
   ·exact hun
   rwa [getD_set_ne true hjk] at hku
  ·rw[getD_set_ne false (fun e=>hjU (by rw[e];exact hu))]
   exact hul u hu
  rw[Array.setIfInBounds_comm _ _ hne]
  exact hk.2.2
theorem takeU_at (U:List Nat) {i d:Nat} {oi:Oper} {v:Value} {fuel:Nat} {listed:Array Bool} {a:Act} {w:World} (hi:ops[i]?=some oi) (hd:oi.dst=some d)
  (hU:(U.all fun u=>u == i || U.any fun p=>waitsFor md ops u p)=true) (hx:(ex.all fun j=>j == i || U.contains j)=true) (hul:(U.all fun u=>!listed.getD u false)=true)
  (hs:Region.noSelect ops=true) (hf:Region.free md ops listed i=true) (hr:(Region.ready md ops listed).contains i=true)
  (hQ:∀c a w,Q (.panic c) { a with tmps:=a.tmps.setIfInBounds d v } w→Q (.panic c) a w) (hw:Region.wanted oi (yielded ops a.tmps)=true) (hy:∀w,S w→(execOp a.eval oi).run P w = .ok (.value v) w) (hS:S w)
  (h:wpAnyL P md ops Q S ex fuel (listed.setIfInBounds i true) { a with tmps:=a.tmps.setIfInBounds d v } w):wpAnyL P md ops Q S ex (fuel+1) listed a w:=by
 refine wpAnyL_firstU hi (Region.noSelect_spec hs) (by rw[hd];exact hQ) hU hx fuel listed a w (Region.free_spec hi hf) (by simpa using hr) (fun u hu=>by simpa using List.all_eq_true.1 hul u hu) (Or.inl ⟨hw,hy⟩) hS ?_
 rw[hd]
 exact h
theorem wpL_region (ex:List Nat) {id:Nat} {a:Act} {w:World} (hm:P.follows .mixedOrders=true) (hS:S w.drew)
  (h:S w.drew→wpAnyL P .any ops Q S ex ops.size (Array.replicate ops.size false) a w.drew):(Code.region id ops true).wp P Q a w:=
 wp_region_any hm (wpAny_of_L _ _ _ _ (h hS))
theorem takeL_at {i d:Nat} {oi:Oper} {v:Value} {fuel:Nat} {listed:Array Bool} {a:Act} {w:World} (hi:ops[i]?=some oi) (hd:oi.dst=some d) (hx:exWait md ops ex i=true)
  (hs:Region.noSelect ops=true) (hf:Region.free md ops listed i=true) (hr:(Region.ready md ops listed).contains i=true)
  (hQ:∀c a w,Q (.panic c) { a with tmps:=a.tmps.setIfInBounds d v } w→Q (.panic c) a w) (hw:Region.wanted oi (yielded ops a.tmps)=true) (hy:∀w,S w→(execOp a.eval oi).run P w = .ok (.value v) w) (hS:S w)
  (h:wpAnyL P md ops Q S ex fuel (listed.setIfInBounds i true) { a with tmps:=a.tmps.setIfInBounds d v } w):wpAnyL P md ops Q S ex (fuel+1) listed a w:=by
 refine wpAnyL_first hi (Region.noSelect_spec hs) (by rw[hd];exact hQ) (keeps_S hx) fuel listed a w (Region.free_spec hi hf) (by simpa using hr) (Or.inl ⟨hw,hy⟩) hS ?_
 rw[hd]
 exact h
theorem takeW_at {i d:Nat} {oi:Oper} {v:Value} {fuel:Nat} {listed:Array Bool} {a:Act} {w:World} (hi:ops[i]?=some oi) (hd:oi.dst=some d)
  (hs:Region.noSelect ops=true) (hf:Region.free md ops listed i=true) (hr:(Region.ready md ops listed).contains i=true)
  (hQ:∀c a w,Q (.panic c) { a with tmps:=a.tmps.setIfInBounds d v } w→Q (.panic c) a w) (hw:Region.wanted oi (yielded ops a.tmps)=true) (hy:∀w,(execOp a.eval oi).run P w = .ok (.value v) w)
  (h:wpAnyL P md ops Q S ex fuel (listed.setIfInBounds i true) { a with tmps:=a.tmps.setIfInBounds d v } w):wpAnyL P md ops Q S ex (fuel+1) listed a w:=by
 refine wpAnyL_first (T:=fun _=>True) hi (Region.noSelect_spec hs) (by rw[hd];exact hQ) (fun _ _ _ _ _ _ _ _ h=>h) fuel listed a w (Region.free_spec hi hf) (by simpa using hr) (Or.inl ⟨hw,fun w _=>hy w⟩) trivial ?_
 rw[hd]
 exact h
theorem wpAnyL_one {i:Nat} {o:Oper} {fuel:Nat} {listed:Array Bool} {a:Act} {w:World} (hi:ops[i]?=some o) (hr:Region.ready md ops listed=[i]) (hw:Region.wanted o (yielded ops a.tmps)=true)
  (h:∀K':Act→World→Prop,(∀a w',(ex.contains i=false→S w→S w')→wpAnyL P md ops Q S ex fuel (listed.setIfInBounds i true) a w'→K' a w')→Oper.wp P o a w K' Q):wpAnyL P md ops Q S ex (fuel+1) listed a w:=by
 refine⟨fun h0=>(by rw[hr] at h0;cases h0),fun j hj=>?_⟩
 rw[hr] at hj
 obtain rfl:j=i:=by simpa using hj
 have:=h _ (fun a w' h1 h2=>(⟨h1,h2⟩:(fun a' w'=>(ex.contains j=false→S w→S w')∧wpAnyL P md ops Q S ex fuel (listed.setIfInBounds j true) a' w') a w'))
 unfold wpOp
 simp only[hi,hw,if_true]
 exact .inl this
theorem callL_at {i d:Nat} {o:Oper} {fuel:Nat} {listed:Array Bool} {a:Act} {w:World} (hi:ops[i]?=some o) (hd:o.dst=some d)
  (hr:Region.ready md ops listed=[i]) (hw:Region.wanted o (yielded ops a.tmps)=true)
  (h:∀K':Act→World→Prop,Shut (∀a w,S w→(S w→wpAnyL P md ops Q S ex fuel (listed.setIfInBounds i true) a w)→K' a w)→Oper.wp P o a w K' Q):wpAnyL P md ops Q S ex (fuel+1) listed a w:=
 wpAnyL_one hi hr hw fun K hK=>h K fun a w hS hr=>hK a w (fun _ _=>hS) (hr hS)
theorem exL_at {i:Nat} {o:Oper} {fuel:Nat} {listed:Array Bool} {a:Act} {w:World} (hi:ops[i]?=some o)
  (hr:Region.ready md ops listed=[i]) (hw:Region.wanted o (yielded ops a.tmps)=true) (hl:ex.contains i=true)
  (h:∀K':Act→World→Prop,Shut (∀a w,wpAnyL P md ops Q S ex fuel (listed.setIfInBounds i true) a w→K' a w)→Oper.wp P o a w K' Q):wpAnyL P md ops Q S ex (fuel+1) listed a w:=
 wpAnyL_one hi hr hw fun K hK=>h K fun a w hr=>hK a w (fun h=>by rw[hl] at h;cases h) hr
end
end Go.Proofs.YtpojjmbalgmcoaaGreat
namespace Go.Proofs.YtpojjmbalgmcoaaGreat
theorem tl {P:Program} {md:Region.Mode} {ops:Array Oper} {Q:Exit→Act→World→Prop} {S:World→Prop} {ex:List Nat} (i d:Nat) (v:Value) {oi:Oper} {fuel:Nat} {listed:Array Bool} {a:Act} {w:World}
  (hy:∀w,S w→(execOp a.eval oi).run P w = .ok (.value v) w)
  (h:wpAnyL P md ops Q S ex fuel (listed.setIfInBounds i true) { a with tmps:=a.tmps.setIfInBounds d v } w)
  (hi:ops[i]?=some oi:=by simp only[zqa,zqb,zqc];rfl) (hd:oi.dst=some d:=by rfl)
  (hc:(exWait md ops ex i && (Region.noSelect ops && (Region.free md ops listed i && (Region.ready md ops listed).contains i)))=true:=by kernel_rfl)
  (hQ:∀c a w,Q (.panic c) { a with tmps:=a.tmps.setIfInBounds d v } w→Q (.panic c) a w:=by exact fun _ _ _ h=>h) (hw:Region.wanted oi (yielded ops a.tmps)=true:=by rfl) (hS:S w:=by assumption):wpAnyL P md ops Q S ex (fuel+1) listed a w:=by
 have h0:=Bool.and_eq_true_iff.1 hc
 have h1:=Bool.and_eq_true_iff.1 h0.2
 have h2:=Bool.and_eq_true_iff.1 h1.2
 exact takeL_at hi hd h0.1 h1.1 h2.1 h2.2 hQ hw hy hS h
theorem tw {P:Program} {md:Region.Mode} {ops:Array Oper} {Q:Exit→Act→World→Prop} {S:World→Prop} {ex:List Nat} (i d:Nat) (v:Value) {oi:Oper} {fuel:Nat} {listed:Array Bool} {a:Act} {w:World}
  (hy:∀w,(execOp a.eval oi).run P w = .ok (.value v) w)
  (h:wpAnyL P md ops Q S ex fuel (listed.setIfInBounds i true) { a with tmps:=a.tmps.setIfInBounds d v } w)
  (hi:ops[i]?=some oi:=by simp only[zqa,zqb,zqc];rfl) (hd:oi.dst=some d:=by rfl)
  (hc:(Region.noSelect ops && (Region.free md ops listed i && (Region.ready md ops listed).contains i))=true:=by kernel_rfl)
  (hQ:∀c a w,Q (.panic c) { a with tmps:=a.tmps.setIfInBounds d v } w→Q (.panic c) a w:=by exact fun _ _ _ h=>h) (hw:Region.wanted oi (yielded ops a.tmps)=true:=by rfl):wpAnyL P md ops Q S ex (fuel+1) listed a w:=by
 have h1:=Bool.and_eq_true_iff.1 hc
 have h2:=Bool.and_eq_true_iff.1 h1.2
 exact takeW_at hi hd h1.1 h2.1 h2.2 hQ hw hy h
theorem tla {P:Program} {md:Region.Mode} {ops:Array Oper} {Q:Exit→Act→World→Prop} {S:World→Prop} {ex:List Nat} (i d:Nat) {v:Value} {oi:Oper} {fuel:Nat} {listed l2:Array Bool} {a a2:Act} {w:World}
  (h:wpAnyL P md ops Q S ex fuel l2 a2 w)
  (hi:ops[i]?=some oi:=by simp only[zqa,zqb,zqc];rfl) (hd:oi.dst=some d:=by rfl)
  (hc:(exWait md ops ex i && (Region.noSelect ops && (Region.free md ops listed i && (Region.ready md ops listed).contains i)))=true:=by kernel_rfl)
  (hy:∀w,S w→(execOp a.eval oi).run P w = .ok (.value v) w:=by intro w h;go_simp;(try with_reducible rfl))
  (hl:listed.setIfInBounds i true=l2:=by (try simp only[zqd,zqe,zqf]);rfl) (ha:{ a with tmps:=a.tmps.setIfInBounds d v }=a2:=by (try simp only[zqd,zqe,zqf]);rfl)
  (hQ:∀c a w,Q (.panic c) { a with tmps:=a.tmps.setIfInBounds d v } w→Q (.panic c) a w:=by exact fun _ _ _ h=>h) (hw:Region.wanted oi (yielded ops a.tmps)=true:=by rfl) (hS:S w:=by assumption):wpAnyL P md ops Q S ex (fuel+1) listed a w:=by
 subst hl ha
 have h0:=Bool.and_eq_true_iff.1 hc
 have h1:=Bool.and_eq_true_iff.1 h0.2
 have h2:=Bool.and_eq_true_iff.1 h1.2
 exact takeL_at hi hd h0.1 h1.1 h2.1 h2.2 hQ hw hy hS h
theorem twa {P:Program} {md:Region.Mode} {ops:Array Oper} {Q:Exit→Act→World→Prop} {S:World→Prop} {ex:List Nat} (i d:Nat) {v:Value} {oi:Oper} {fuel:Nat} {listed l2:Array Bool} {a a2:Act} {w:World}
  (h:wpAnyL P md ops Q S ex fuel l2 a2 w)
  (hi:ops[i]?=some oi:=by simp only[zqa,zqb,zqc];rfl) (hd:oi.dst=some d:=by rfl)
  (hc:(Region.noSelect ops && (Region.free md ops listed i && (Region.ready md ops listed).contains i))=true:=by kernel_rfl)
  (hy:∀w,(execOp a.eval oi).run P w = .ok (.value v) w:=by intro w;go_simp;(try with_reducible rfl))
  (hl:listed.setIfInBounds i true=l2:=by (try simp only[zqd,zqe,zqf]);rfl) (ha:{ a with tmps:=a.tmps.setIfInBounds d v }=a2:=by (try simp only[zqd,zqe,zqf]);rfl)
  (hQ:∀c a w,Q (.panic c) { a with tmps:=a.tmps.setIfInBounds d v } w→Q (.panic c) a w:=by exact fun _ _ _ h=>h) (hw:Region.wanted oi (yielded ops a.tmps)=true:=by rfl):wpAnyL P md ops Q S ex (fuel+1) listed a w:=by
 subst hl ha
 have h1:=Bool.and_eq_true_iff.1 hc
 have h2:=Bool.and_eq_true_iff.1 h1.2
 exact takeW_at hi hd h1.1 h2.1 h2.2 hQ hw hy h
theorem tua {P:Program} {md:Region.Mode} {ops:Array Oper} {Q:Exit→Act→World→Prop} {S:World→Prop} {ex:List Nat} (U:List Nat) (i d:Nat) {v:Value} {oi:Oper} {fuel:Nat} {listed l2:Array Bool} {a a2:Act} {w:World}
  (h:wpAnyL P md ops Q S ex fuel l2 a2 w)
  (hi:ops[i]?=some oi:=by simp only[zqa,zqb,zqc];rfl) (hd:oi.dst=some d:=by rfl)
  (hU:(U.all fun u=>u == i || U.any fun p=>waitsFor md ops u p)=true:=by kernel_rfl) (hx:(ex.all fun j=>j == i || U.contains j)=true:=by kernel_rfl) (hul:(U.all fun u=>!listed.getD u false)=true:=by kernel_rfl)
  (hc:(Region.noSelect ops && (Region.free md ops listed i && (Region.ready md ops listed).contains i))=true:=by kernel_rfl)
  (hy:∀w,S w→(execOp a.eval oi).run P w = .ok (.value v) w:=by intro w h;go_simp;(try with_reducible rfl))
  (hl:listed.setIfInBounds i true=l2:=by (try simp only[zqd,zqe,zqf]);rfl) (ha:{ a with tmps:=a.tmps.setIfInBounds d v }=a2:=by (try simp only[zqd,zqe,zqf]);rfl)
  (hQ:∀c a w,Q (.panic c) { a with tmps:=a.tmps.setIfInBounds d v } w→Q (.panic c) a w:=by exact fun _ _ _ h=>h) (hw:Region.wanted oi (yielded ops a.tmps)=true:=by rfl) (hS:S w:=by assumption):wpAnyL P md ops Q S ex (fuel+1) listed a w:=by
 subst hl ha
 have h1:=Bool.and_eq_true_iff.1 hc
 have h2:=Bool.and_eq_true_iff.1 h1.2
 exact takeU_at U hi hd hU hx hul h1.1 h2.1 h2.2 hQ hw hy hS h
theorem cl {P:Program} {md:Region.Mode} {ops:Array Oper} {Q:Exit→Act→World→Prop} {S:World→Prop} {ex:List Nat} (i d:Nat) {o:Oper} {fuel:Nat} {listed:Array Bool} {a:Act} {w:World}
  (h:∀K':Act→World→Prop,Shut (∀a w,S w→(S w→wpAnyL P md ops Q S ex fuel (listed.setIfInBounds i true) a w)→K' a w)→Oper.wp P o a w K' Q)
  (hi:ops[i]?=some o:=by simp only[zqa,zqb,zqc];rfl) (hd:o.dst=some d:=by rfl)
  (hr:Region.ready md ops listed=[i]:=by kernel_rfl) (hw:Region.wanted o (yielded ops a.tmps)=true:=by rfl):wpAnyL P md ops Q S ex (fuel+1) listed a w:=callL_at hi hd hr hw h
theorem xl {P:Program} {md:Region.Mode} {ops:Array Oper} {Q:Exit→Act→World→Prop} {S:World→Prop} {ex:List Nat} (i:Nat) {o:Oper} {fuel:Nat} {listed:Array Bool} {a:Act} {w:World}
  (h:∀K':Act→World→Prop,Shut (∀a w,wpAnyL P md ops Q S ex fuel (listed.setIfInBounds i true) a w→K' a w)→Oper.wp P o a w K' Q)
  (hi:ops[i]?=some o:=by simp only[zqa,zqb,zqc];rfl)
  (hr:Region.ready md ops listed=[i]:=by kernel_rfl) (hw:Region.wanted o (yielded ops a.tmps)=true:=by rfl) (hl:ex.contains i=true:=by kernel_rfl):wpAnyL P md ops Q S ex (fuel+1) listed a w:=exL_at hi hr hw hl h
open Go.RowKit
theorem call2L_at {P:Program} {md:Region.Mode} {ops:Array Oper} {Q:Exit→Act→World→Prop} {S:World→Prop} {ex:List Nat} {i j:Nat} {o o2:Oper} {fuel:Nat} {listed:Array Bool} {a:Act} {w:World} (hi:ops[i]?=some o) (hj:ops[j]?=some o2)
  (hr:Region.ready md ops listed=[i,j]) (hw:Region.wanted o (yielded ops a.tmps)=true) (hw2:Region.wanted o2 (yielded ops a.tmps)=true)
  (h:∀K':Act→World→Prop,Shut (∀a w,S w→(S w→wpAnyL P md ops Q S ex fuel (listed.setIfInBounds i true) a w)→K' a w)→Oper.wp P o a w K' Q)
  (h2:∀K':Act→World→Prop,Shut (∀a w,S w→(S w→wpAnyL P md ops Q S ex fuel (listed.setIfInBounds j true) a w)→K' a w)→Oper.wp P o2 a w K' Q):wpAnyL P md ops Q S ex (fuel+1) listed a w:=by
 refine⟨fun h0=>(by rw[hr] at h0;cases h0),fun x hx=>?_⟩
 rw[hr] at hx
 have hx':x=i∨x=j:=by simpa using hx
 rcases hx' with rfl | rfl
 ·have:=h (fun a' w'=>(ex.contains x=false→S w→S w')∧wpAnyL P md ops Q S ex fuel (listed.setIfInBounds x true) a' w') (fun a w hS hr=>⟨fun _ _=>hS,hr hS⟩)
  unfold wpOp
  simp only[hi,hw,if_true]
  exact .inl this
 have:=h2 (fun a' w'=>(ex.contains x=false→S w→S w')∧wpAnyL P md ops Q S ex fuel (listed.setIfInBounds x true) a' w') (fun a w hS hr=>⟨fun _ _=>hS,hr hS⟩)
 unfold wpOp
 simp only[hj,hw2,if_true]
 exact .inl this
theorem call3L_at {P:Program} {md:Region.Mode} {ops:Array Oper} {Q:Exit→Act→World→Prop} {S:World→Prop} {ex:List Nat} {i0 i1 i2:Nat} {o0 o1 o2:Oper} {fuel:Nat} {listed:Array Bool} {a:Act} {w:World} (h0:ops[i0]?=some o0) (h1:ops[i1]?=some o1) (h2:ops[i2]?=some o2)
  (hr:Region.ready md ops listed=[i0,i1,i2]) (w0:Region.wanted o0 (yielded ops a.tmps)=true) (w1:Region.wanted o1 (yielded ops a.tmps)=true) (w2:Region.wanted o2 (yielded ops a.tmps)=true)
  (g0:∀K':Act→World→Prop,Shut (∀a w,S w→(S w→wpAnyL P md ops Q S ex fuel (listed.setIfInBounds i0 true) a w)→K' a w)→Oper.wp P o0 a w K' Q)
  (g1:∀K':Act→World→Prop,Shut (∀a w,S w→(S w→wpAnyL P md ops Q S ex fuel (listed.setIfInBounds i1 true) a w)→K' a w)→Oper.wp P o1 a w K' Q)
  (g2:∀K':Act→World→Prop,Shut (∀a w,S w→(S w→wpAnyL P md ops Q S ex fuel (listed.setIfInBounds i2 true) a w)→K' a w)→Oper.wp P o2 a w K' Q):wpAnyL P md ops Q S ex (fuel+1) listed a w:=by
 refine⟨fun h0=>(by rw[hr] at h0;cases h0),fun x hx=>?_⟩
 rw[hr] at hx
 have hx':x=i0∨x=i1∨x=i2:=by simpa using hx
 rcases hx' with rfl | rfl | rfl
 ·have:=g0 (fun a' w'=>(ex.contains x=false→S w→S w')∧wpAnyL P md ops Q S ex fuel (listed.setIfInBounds x true) a' w') (fun a w hS hr=>⟨fun _ _=>hS,hr hS⟩)
  unfold wpOp
  simp only[h0,w0,if_true]
  exact .inl this
 ·have:=g1 (fun a' w'=>(ex.contains x=false→S w→S w')∧wpAnyL P md ops Q S ex fuel (listed.setIfInBounds x true) a' w') (fun a w hS hr=>⟨fun _ _=>hS,hr hS⟩)
  unfold wpOp
  simp only[h1,w1,if_true]
  exact .inl this
 have:=g2 (fun a' w'=>(ex.contains x=false→S w→S w')∧wpAnyL P md ops Q S ex fuel (listed.setIfInBounds x true) a' w') (fun a w hS hr=>⟨fun _ _=>hS,hr hS⟩)
 unfold wpOp
 simp only[h2,w2,if_true]
 exact .inl this
theorem call4L_at {P:Program} {md:Region.Mode} {ops:Array Oper} {Q:Exit→Act→World→Prop} {S:World→Prop} {ex:List Nat} {i0 i1 i2 i3:Nat} {o0 o1 o2 o3:Oper} {fuel:Nat} {listed:Array Bool} {a:Act} {w:World} (h0:ops[i0]?=some o0) (h1:ops[i1]?=some o1) (h2:ops[i2]?=some o2) (h3:ops[i3]?=some o3)
  (hr:Region.ready md ops listed=[i0,i1,i2,i3]) (w0:Region.wanted o0 (yielded ops a.tmps)=true) (w1:Region.wanted o1 (yielded ops a.tmps)=true) (w2:Region.wanted o2 (yielded ops a.tmps)=true) (w3:Region.wanted o3 (yielded ops a.tmps)=true)
  (g0:∀K':Act→World→Prop,Shut (∀a w,S w→(S w→wpAnyL P md ops Q S ex fuel (listed.setIfInBounds i0 true) a w)→K' a w)→Oper.wp P o0 a w K' Q)
  (g1:∀K':Act→World→Prop,Shut (∀a w,S w→(S w→wpAnyL P md ops Q S ex fuel (listed.setIfInBounds i1 true) a w)→K' a w)→Oper.wp P o1 a w K' Q)
  (g2:∀K':Act→World→Prop,Shut (∀a w,S w→(S w→wpAnyL P md ops Q S ex fuel (listed.setIfInBounds i2 true) a w)→K' a w)→Oper.wp P o2 a w K' Q)
  (g3:∀K':Act→World→Prop,Shut (∀a w,S w→(S w→wpAnyL P md ops Q S ex fuel (listed.setIfInBounds i3 true) a w)→K' a w)→Oper.wp P o3 a w K' Q):wpAnyL P md ops Q S ex (fuel+1) listed a w:=by
 refine⟨fun h0=>(by rw[hr] at h0;cases h0),fun x hx=>?_⟩
 rw[hr] at hx
 have hx':x=i0∨x=i1∨x=i2∨x=i3:=by simpa using hx
 rcases hx' with rfl | rfl | rfl | rfl
 ·have:=g0 (fun a' w'=>(ex.contains x=false→S w→S w')∧wpAnyL P md ops Q S ex fuel (listed.setIfInBounds x true) a' w') (fun a w hS hr=>⟨fun _ _=>hS,hr hS⟩)
  unfold wpOp
  simp only[h0,w0,if_true]
  exact .inl this
 ·have:=g1 (fun a' w'=>(ex.contains x=false→S w→S w')∧wpAnyL P md ops Q S ex fuel (listed.setIfInBounds x true) a' w') (fun a w hS hr=>⟨fun _ _=>hS,hr hS⟩)
  unfold wpOp
  simp only[h1,w1,if_true]
  exact .inl this
 ·have:=g2 (fun a' w'=>(ex.contains x=false→S w→S w')∧wpAnyL P md ops Q S ex fuel (listed.setIfInBounds x true) a' w') (fun a w hS hr=>⟨fun _ _=>hS,hr hS⟩)
  unfold wpOp
  simp only[h2,w2,if_true]
  exact .inl this
 have:=g3 (fun a' w'=>(ex.contains x=false→S w→S w')∧wpAnyL P md ops Q S ex fuel (listed.setIfInBounds x true) a' w') (fun a w hS hr=>⟨fun _ _=>hS,hr hS⟩)
 unfold wpOp
 simp only[h3,w3,if_true]
 exact .inl this
section
variable {P:Program} {w:World}
theorem op_ap1 {o:Oper} {a:Act} {K:Act→World→Prop} {Q:Exit→Act→World→Prop} (s x:Operand) (t:TypeId)
  (ho:o.op = .call { callee:=.builtin .append,args:=#[s,x],argTypes:=#[t,t] })
  (base:Nat) (e:TypeId) (i:TypeInfo) (z:Value) (size bytes:Nat) (ht:P.underlying t=some (.slice e)) (hi:P.info? e=some i) (hz:i.zero=some z)
  (hsize:i.size=size) (hby:i.bytes=bytes) (hzs:z.cells.size=size) (hsz:0<size)
  (v:Value) (n:Nat) (xs:List Value) (hs:a.eval s=v) (hown:w.ownsRow base e size v n xs)
  (B:Nat) (A:Option Addr) (m c:Nat) (news:List Value) (hx:a.eval x = .slice A m c) (hl:news.length=m*size) (hr:Rd w B A news) (h1:∀u∈news,u.oneCell'=true)
  (h63:n+m≤maxLen) (hbytes:(n+m)*bytes≤140737488355328) (hbase:base≤w.heap.size)
  (h:∀A' c' w',w'.ownsRow base e size (.slice A' (n+m) c') (n+m) (xs ++ news)→w.grownBy w' v.ownBlock →
   ((Value.slice A' (n+m) c').ownBlock=v.ownBlock∨(Value.slice A' (n+m) c').ownBlock=some w.heap.size)→K (a.put o.dst (.slice A' (n+m) c')) w'):Oper.wp P o a w K Q:=by
 obtain⟨A',c',w',hrun,h2,h3,h4⟩:=run_app (P:=P) (w:=w) base t o.type e i z size bytes ht hi hz hsize hby hzs hsz v n xs hown B A m c news hl hr h1 h63 hbytes hbase
 unfold Oper.wp execOp
 simp only[ho,resolve,invoke,builtin,Sem.run_bind,Sem.run_pure,Result.andThen_ok,List.map_toArray,List.map_cons,List.map_nil,hs,hx,hrun]
 exact h A' c' w' h2 h3 h4
end
theorem own_all {w w':World} {b B:Nat} {e:TypeId} {size n:Nat} {v:Value} {xs:List Value} (h:w.ownsRow b e size v n xs) (hb:Below B w w') (hB:w.heap.size≤B):w'.ownsRow b e size v n xs:=
 own_below h hb fun g hg=>Nat.lt_of_lt_of_le (h.lt g hg).2 hB
theorem below_start {B:Nat} {a w:World} (h:Below B a.drew w):Below B a w:=⟨h.os,h.tape,h.output,h.size,h.block⟩
section
variable {P:Program} {w:World}
theorem op_app {o:Oper} {a:Act} {K:Act→World→Prop} {Q:Exit→Act→World→Prop} (s x:Operand) (t:TypeId)
  (ho:o.op = .call { callee:=.builtin .append,args:=#[s,x],argTypes:=#[t,t] })
  (base:Nat) (e:TypeId) (i:TypeInfo) (z:Value) (size bytes:Nat) (ht:P.underlying t=some (.slice e)) (hi:P.info? e=some i) (hz:i.zero=some z)
  (hsize:i.size=size) (hby:i.bytes=bytes) (hzs:z.cells.size=size) (hsz:0<size)
  (v:Value) (n:Nat) (xs:List Value) (hs:a.eval s=v) (hown:w.ownsRow base e size v n xs)
  (B:Nat) (A:Option Addr) (m c:Nat) (news:List Value) (hx:a.eval x = .slice A m c) (hl:news.length=m*size) (hr:Rd w B A news) (h1:∀u∈news,u.oneCell'=true)
  (h63:n+m≤maxLen) (hbytes:(n+m)*bytes≤140737488355328) (hbase:base≤w.heap.size)
  (h:∀A' c' w',w'.ownsRow base e size (.slice A' (n+m) c') (n+m) (xs ++ news)→w.grownBy w' v.ownBlock →
   ((Value.slice A' (n+m) c').ownBlock=v.ownBlock∨(Value.slice A' (n+m) c').ownBlock=some w.heap.size)→K (a.put o.dst (.slice A' (n+m) c')) w'):Oper.wp P o a w K Q:=by
 obtain⟨A',c',w',hrun,h2,h3,h4⟩:=run_app (P:=P) (w:=w) base t o.type e i z size bytes ht hi hz hsize hby hzs hsz v n xs hown B A m c news hl hr h1 h63 hbytes hbase
 unfold Oper.wp execOp
 simp only[ho,resolve,invoke,builtin,Sem.run_bind,Sem.run_pure,Result.andThen_ok,List.map_toArray,List.map_cons,List.map_nil,hs,hx,hrun]
 exact h A' c' w' h2 h3 h4
end
def edFlat (es:List Ed):List Value:=es.flatMap fun e=>[.int .i64 e.1,.int .i64 e.2.1,.int .i64 e.2.2]
theorem edFlat_len (es:List Ed):(edFlat es).length=es.length*3:=by
 induction es with
 | nil=>rfl
 | cons e es ih=>unfold edFlat at ih ⊢;rw[List.flatMap_cons,List.length_append,ih,List.length_cons];simp;omega
theorem edFlat_app (a b:List Ed):edFlat a ++ edFlat b=edFlat (a ++ b):=by simp[edFlat]
theorem edFlat_get {es:List Ed}:∀{i:Nat} {e:Ed},es[i]?=some e→∀j u,([.int .i64 e.1,.int .i64 e.2.1,.int .i64 e.2.2]:List Value)[j]?=some u→(edFlat es)[i*3+j]?=some u:=by
 induction es with
 | nil=>intro i e h;simp at h
 | cons x es ih=>
  intro i e h j u hu
  have hj:j<3:=by
   rcases Nat.lt_or_ge j 3 with h | h
   ·exact h
   rw[List.getElem?_eq_none (by simpa using h)] at hu;cases hu
  unfold edFlat
  rw[List.flatMap_cons]
  cases i with
  | zero=>
   simp only[List.getElem?_cons_zero,Option.some.injEq] at h
   subst h
   rw[List.getElem?_append_left (by simp;omega),Nat.zero_mul,Nat.zero_add]
   exact hu
  | succ i=>
   rw[List.getElem?_append_right (by simp;omega)]
   have:=ih (i:=i) (by simpa using h) j u hu
   unfold edFlat at this
   rw[←this]
   congr 1
   simp
   omega
def wt (es:List Ed):Prop:=∀e∈es,-9223372036854775808≤e.2.2∧e.2.2≤9223372036854775807
theorem wt_of {es:List Ed} (h:(es.all fun e=>decide (-9223372036854775808≤e.2.2) && decide (e.2.2≤9223372036854775807))=true):wt es:=fun e he=>by
 have:=List.all_eq_true.1 h e he
 simpa using this
theorem Eds.of_rd {w:World} {B:Nat} {A:Option Addr} {es:List Ed} (h:Rd w B A (edFlat es)) (hw:wt es):Eds w B A es:=fun hn=>by
 obtain⟨b,off,rfl,hb,hc⟩:=h (fun e=>hn (List.eq_nil_of_length_eq_zero (by have:=edFlat_len es;rw[e] at this;simp at this;omega)))
 refine⟨b,off,rfl,hb,fun i x hx=>⟨[.int .i64 x.1,.int .i64 x.2.1,.int .i64 x.2.2],rfl,⟨rfl,hw x (List.mem_of_getElem? hx)⟩,fun j u hu=>hc _ _ (edFlat_get hx j u hu)⟩⟩
theorem Eds.rd {w:World} {B:Nat} {A:Option Addr} {es:List Ed} (h:Eds w B A es):Rd w B A (edFlat es):=fun hn=>by
 obtain⟨b,off,rfl,hb,hc⟩:=h (fun e=>by subst e;exact hn rfl)
 refine⟨b,off,rfl,hb,fun j u hu=>?_⟩
 have hj:=(List.getElem?_eq_some_iff.1 hu).1
 rw[edFlat_len] at hj
 have hi:j / 3<es.length:=by omega
 obtain⟨cs,hl,⟨rfl,_⟩,hcc⟩:=hc (j / 3) _ (List.getElem?_eq_getElem hi)
 have hjj:j / 3*3+j % 3=j:=by omega
 have h3:j % 3<3:=by omega
 obtain⟨u',hu'⟩:∃u',([.int .i64 es[j / 3].1,.int .i64 es[j / 3].2.1,.int .i64 es[j / 3].2.2]:List Value)[j % 3]?=some u':=by
  rcases (show j % 3=0∨j % 3=1∨j % 3=2 by omega) with h | h | h <;> rw[h] <;> exact⟨_,rfl⟩
 have h1:=edFlat_get (List.getElem?_eq_getElem hi) (j % 3) u' hu'
 rw[hjj,hu] at h1
 obtain rfl:u=u':=by simpa using h1
 have:=hcc (j % 3) _ hu'
 rw[hjj] at this
 exact this
theorem Eds.wt {w:World} {B:Nat} {A:Option Addr} {es:List Ed} (h:Eds w B A es):wt es:=fun e he=>by
 obtain⟨i,hi⟩:=List.getElem?_of_mem he
 obtain⟨b,off,rfl,hb⟩:=Els.at_ h (List.getElem?_eq_some_iff.1 hi).1
 obtain⟨cs,hl,⟨_,h1⟩,_⟩:=Els.get h hi
 exact h1
def GraphPost (w:World) (V:Int) (es:List Ed) (e:Ending) (w':World):Prop:=∃A c,e = .returned (.agg #[.int .i64 V,.slice A es.length c])∧Eds w' w'.heap.size A es∧es.length≤c∧c≤9223372036854775807∧Below w.heap.size w w'
end Go.Proofs.YtpojjmbalgmcoaaGreat
namespace Go.Proofs.YtpojjmbalgmcoaaGreat
theorem stL_at {P:Program} {ops:Array Oper} {Q:Exit→Act→World→Prop} {md:Region.Mode} {S:World→Prop} {ex:List Nat} {i:Nat} {o:Oper} {fuel:Nat} {listed:Array Bool} {a:Act} {w:World} (hi:ops[i]?=some o)
  (hr:Region.ready md ops listed=[i]) (hw:Region.wanted o (yielded ops a.tmps)=true)
  (h:∀K':Act→World→Prop,Shut (∀a w,S w→(S w→wpAnyL P md ops Q S ex fuel (listed.setIfInBounds i true) a w)→K' a w)→Oper.wp P o a w K' Q):wpAnyL P md ops Q S ex (fuel+1) listed a w:=
 wpAnyL_one hi hr hw fun K hK=>h K fun a w hS hr=>hK a w (fun _ _=>hS) (hr hS)
end Go.Proofs.YtpojjmbalgmcoaaGreat

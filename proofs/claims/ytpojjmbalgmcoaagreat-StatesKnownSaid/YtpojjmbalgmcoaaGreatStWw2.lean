/- Lemmas: Row. -/
import Derived.Test.YtpojjmbalgmcoaaGreatProg
import Derived.ProofKit
import Derived.OpenShut
import Derived.ChangeSame
import Derived.SizedLaws
import Derived.Deep.Slices
import Derived.Test.YtpojjmbalgmcoaaGreatStWw1
set_option linter.unusedVariables false
set_option linter.unusedSimpArgs false
set_option maxRecDepth 100000
set_option maxHeartbeats 16000000
namespace Go.Proofs.YtpojjmbalgmcoaaGreat
open Go.RowKit Go.ChangeShapes Go.WideShapes Go.ChangeAt
theorem row_laid:laidOutB Tryz.prog=true:=by kernel_rfl
theorem row_own:ownKnob Tryz.prog.godebug=none:=by kernel_rfl
section
variable {H:Type} {enc:TypeId×Value→H} {P:Program}
theorem trodAll_below (hl:laidOutB P=true) {W W':World} (hb:Below W.heap.size W W') {sp:Nat→Bool}:∀{ts:List TypeId} {vs:List Value} {ds:List (DataW H)} {ps:List MemPlace},
  (∀t∈ts,P.readableRec t=true∧t<P.types.size)→DataW.TrodAll enc P W 0 (fun _=>true) true ts vs ds ps→(∀x∈ps,x.block<W.heap.size)→(∀x∈ps,sp x.block=true) →
  DataW.TrodAll enc P W' 0 sp true ts vs ds ps:=by
 intro ts
 induction ts with
 | nil=>
  intro vs ds ps _ h _ _
  obtain⟨rfl,rfl,rfl⟩:=trodAll_nil h
  exact trodAll_mk0
 | cons t ts ih=>
  intro vs ds ps ht h hlt hsp
  obtain⟨v0,vs0,d0,ds0,p0,q0,rfl,rfl,rfl,h0,r0⟩:=trodAll_cons h
  refine trodAll_cons_mk ?_ ?_
  ·exact WideElems.Trod_stays hl (ht t (by simp)).1 (ht t (by simp)).2 h0 (fun x hx=>hb.same (hlt x (by simp[hx]))) (fun x hx=>hsp x (by simp[hx]))
  exact ih (fun t' h'=>ht t' (by simp[h'])) r0 (fun x hx=>hlt x (by simp[hx])) (fun x hx=>hsp x (by simp[hx]))
theorem post_true {f:Func} {s:ChangeSpec} {W W':World} {args:Array Value} {ds gs:List (DataW H)} {before:List MemPlace} {tb:TypeId}
  (hW:DataW.Whole enc P f.params.toList s.vars false W args.toList ds gs before) (hv:s.vars=[])
  (hr:f.resultTypes=#[tb]) (ht:P.underlying tb=some .bool) (hl:laidOutB P=true)
  (hp:(f.params.toList.all fun t=>P.readableRec t && decide (t<P.types.size))=true)
  (hs:(s.fn H (ds ++ gs)).results=[.lit (.bool true)]) (hs2:(s.fn H (ds ++ gs)).args=ds) (hs3:(s.fn H (ds ++ gs)).vars=[])
  (hb:Below W.heap.size W W') :
  s.post enc P f false true false false W args (.bool true) W':=by
 have hW0:=hW
 obtain⟨p,q,hA,hV,rfl,hfz,hnd⟩:=hW
 rw[hv] at hV
 obtain⟨rfl,rfl⟩:=trodVars_none hV
 have hlt:∀x∈p ++ [],x.block<W.heap.size:=fun x hx=>hW0.lt x hx
 have hp':∀t∈f.params.toList,P.readableRec t=true∧t<P.types.size:=fun t h=>by
  have:=List.all_eq_true.1 hp t h
  simpa using this
 have hargs:∀sp:Nat→Bool,(∀x∈p ++ [],sp x.block=true)→DataW.TrodAll enc P W' 0 sp true f.params.toList args.toList (s.fn H (ds ++ [])).args p:=fun sp hsp=>by
  rw[hs2]
  exact trodAll_below hl hb hp' hA (fun x hx=>hlt x (by simp[hx])) (fun x hx=>hsp x (by simp[hx]))
 have hvars:∀sp:Nat→Bool,(∀x∈p ++ [],sp x.block=true)→DataW.TrodVars enc P W' sp s.vars (s.fn H (ds ++ [])).vars []:=fun sp _=>by
  rw[hs3,hv];rfl
 have hold:∀x∈p ++ [],(fun b=>decide (b<W.heap.size)) x.block=true:=fun x hx=>by simpa using hlt x hx
 refine⟨ds,[],p ++ [],[],p,[],hW0,?_,hargs _ hold,hvars _ hold,World.keptBut_mono (fun x hx=>⟨hx,Or.inr (by simpa using hx)⟩) (hb.frame (·∈p ++ [])),fun h=>by cases h⟩
 rw[hs,hr]
 exact trodAll_cons_mk (shut_bool ht _) trodAll_mk0
end
end Go.Proofs.YtpojjmbalgmcoaaGreat

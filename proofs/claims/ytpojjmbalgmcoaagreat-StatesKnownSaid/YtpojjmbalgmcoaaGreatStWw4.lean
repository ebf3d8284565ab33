/- Lemmas: Osp. -/
import Derived.Test.YtpojjmbalgmcoaaGreatProg
import Derived.Test.YtpojjmbalgmcoaaGreatStWw2
import Derived.Test.YtpojjmbalgmcoaaGreatStWw3
set_option linter.unusedVariables false
set_option linter.unusedSimpArgs false
set_option maxRecDepth 100000
set_option maxHeartbeats 16000000
namespace Go.Proofs.YtpojjmbalgmcoaaGreat
open Go.ChangeShapes Go.WideShapes Go.ChangeAt Go.RowKit
theorem Els.ml {w:World} {B:Nat} {A:Option Addr} {l:List Ml} (h:Els w B 2 A l (fun cs m=>cs=[.bool m.1,.int .i64 m.2])):Rd w B A (mlFlat l):=fun hn=>by
 obtain⟨b,off,rfl,hb,hc⟩:=h (fun e=>by subst e;exact hn rfl)
 refine⟨b,off,rfl,hb,fun j u hu=>?_⟩
 have hj:=(List.getElem?_eq_some_iff.1 hu).1
 rw[mlFlat_len] at hj
 have hi:j / 2<l.length:=by omega
 obtain⟨cs,hl,rfl,hcc⟩:=hc (j / 2) _ (List.getElem?_eq_getElem hi)
 obtain⟨g0,g1⟩:=mlFlat_get (List.getElem?_eq_getElem hi)
 rcases (show j % 2=0∨j % 2=1 by omega) with h2 | h2
 ·have hjj:j / 2*2=j:=by omega
  rw[hjj,hu] at g0
  obtain rfl:u=_:=by simpa using g0
  have:=hcc 0 _ rfl
  rw[Nat.add_zero,hjj] at this
  exact this
 have hjj:j / 2*2+1=j:=by omega
 rw[hjj,hu] at g1
 obtain rfl:u=_:=by simpa using g1
 have:=hcc 1 _ rfl
 rw[hjj] at this
 exact this
section
variable {H:Type} {enc:TypeId×Value→H}
end
end Go.Proofs.YtpojjmbalgmcoaaGreat

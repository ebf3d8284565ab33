/- Lemmas: Rir. -/
import Derived.OrdersIn
import Derived.RangeFuncCalls
import Derived.Test.YtpojjmbalgmcoaaGreatStWw6
set_option linter.unusedVariables false
set_option linter.unusedSimpArgs false
set_option maxRecDepth 100000
set_option maxHeartbeats 16000000
namespace Go.Proofs.YtpojjmbalgmcoaaGreat
open Go.RowKit
section
variable {P:Program} {Q:Exit→Act→World→Prop} {l n:Nat}
theorem rows_wide {row:String} {args:Array Value} {w:World} {R:Value→World→Prop} (h:Go.Rows P row args w R):RowsIn (Fence.wide.inRound l) n P row args w R:=fun c cs _=>by
 obtain⟨v,w',h1,h2⟩:=h c cs
 exact⟨v,w',h1,stepsIn_wide.2 h2⟩
theorem oper_in {o:Oper} {a:Act} {w:World} {K:Act→World→Prop} (hnd:∀c,o.op≠.defer c) (h:Oper.wp P o a w K Q):Oper.wpIn (Fence.wide.inRound l) n P o a w K Q:=by
 refine⟨fun f _=>trivial,?_⟩
 rw[Oper.semAt_eq _ _ _ hnd]
 unfold Oper.wp at h
 generalize (execOp a.eval o).run P w=r at h ⊢
 cases r with
 | ok x w'=>
  cases x
  case value v=>exact h
  case skip=>exact h
  case defer d=>exact h
  case enter f args=>exact⟨(fun h=>by cases h),CallsIn.inRound l (callsIn_wide.2 h)⟩
  case row row args=>exact⟨(fun h=>by cases h),rows_wide h⟩
  all_goals exact h.elim
 | halt x w'=>
  cases x <;> first | exact h | exact h.elim
theorem any_in {ops:Array Oper} {S:World→Prop} {ex:List Nat} (hnd:∀(i:Nat) (o:Oper),ops[i]?=some o→∀c,o.op≠.defer c) (hl:¬LetsOut Q):∀(fuel:Nat) (listed:Array Bool) (a:Act) (w:World),wpAnyL P .any ops Q S ex fuel listed a w→wpAnyIn (Fence.wide.inRound l) n P .any ops Q fuel listed a w
 | 0,_,_,_,h=>h
 | fuel+1,listed,a,w,h=>by
  refine⟨h.1,fun i hi=>?_⟩
  have h2:=h.2 i hi
  unfold wpOp at h2
  unfold wpOpIn
  split
  ·rename_i h3
   rw[h3] at h2
   exact any_in hnd hl fuel _ a w h2.2
  rename_i o h3
  rw[h3] at h2
  dsimp only at h2
  split
  ·rename_i hw
   rw[if_pos hw] at h2
   rcases h2 with h2 | ⟨_,h2⟩
   ·exact oper_in (hnd i o h3) (Oper.wp_mono (fun a' w' h'=>any_in hnd hl fuel _ a' w' h'.2) h2)
   exact absurd h2 hl
  rename_i hw
  rw[if_neg hw] at h2
  exact⟨fun f _=>trivial,any_in hnd hl fuel _ _ w h2.2⟩
def noDefer (ops:Array Oper):Bool:=ops.toList.all fun o=>match o.op with | .defer _=>false | _=>true
theorem noDefer_spec {ops:Array Oper} (h:noDefer ops=true):∀(i:Nat) (o:Oper),ops[i]?=some o→∀c,o.op≠.defer c:=fun i o ho c e=>by
 have:=List.all_eq_true.1 h o (List.mem_of_getElem? (by simpa using ho))
 rw[e] at this
 cases this
theorem wpR_region {S:World→Prop} (ex:List Nat) {id:Nat} {ops:Array Oper} {a:Act} {w:World} (hm:P.follows .mixedOrders=true) (hd:noDefer ops=true) (hl:¬LetsOut Q) (hS:S w.drew)
  (h:S w.drew→wpAnyL P .any ops Q S ex ops.size (Array.replicate ops.size false) a w.drew):(Code.region id ops true).wpIn (Fence.wide.inRound l) n P Q a w:=
 wpIn_region_any hm (any_in (noDefer_spec hd) hl _ _ _ _ (h hS))
end
end Go.Proofs.YtpojjmbalgmcoaaGreat

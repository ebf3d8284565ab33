/- Lemmas: Spb. -/
import Derived.Test.YtpojjmbalgmcoaaGreatStWw3
import Derived.Test.YtpojjmbalgmcoaaGreatStWw14
set_option linter.unusedVariables false
set_option linter.unusedSimpArgs false
set_option maxRecDepth 100000
set_option maxHeartbeats 16000000
namespace Go.Proofs.YtpojjmbalgmcoaaGreat
open Go.RowKit
def flagOf (c h:Bool):Nat:=(if c then 1 else 0)+(if h then 2 else 0)
def vB (v x:Int) (c:Bool) (m:Ml):List UInt8:=be 2 v.toNat ++ be 8 x.toNat ++ be 1 (flagOf c m.1) ++ (if m.1 then be 8 m.2.toNat else [])
def rowsB (p:SPart) (i:Nat):List UInt8:=(List.range i).flatMap fun j=>vB (p.own.getD j 0) (p.vals.getD j 0) (p.chg.getD j false) (p.inb.getD j (false,0))
def headB (p:SPart):List UInt8:=be 4 p.step.toNat ++ be 2 p.own.length
def putB (p:SPart):List UInt8:=headB p ++ rowsB p p.own.length
theorem getD_of {α:Type} {l:List α} {i:Nat} {x d:α} (h:l[i]?=some x):l.getD i d=x:=by simp[h]
theorem rowsB_snoc {p:SPart} {i:Nat} {v x:Int} {c:Bool} {m:Ml} (h1:p.own[i]?=some v) (h2:p.vals[i]?=some x) (h3:p.chg[i]?=some c) (h4:p.inb[i]?=some m):rowsB p (i+1)=rowsB p i ++ vB v x c m:=by
 unfold rowsB
 rw[List.range_succ,List.flatMap_append]
 congr 1
 simp only[List.flatMap_cons,List.flatMap_nil,List.append_nil,getD_of h1,getD_of h2,getD_of h3,getD_of h4]
theorem vB_len (v x:Int) (c:Bool) (m:Ml):(vB v x c m).length≤19:=by
 unfold vB
 simp only[List.length_append,be_len]
 split
 ·rw[be_len];omega
 simp
theorem rowsB_len (p:SPart) (i:Nat):(rowsB p i).length≤19*i:=by
 induction i with
 | zero=>simp[rowsB]
 | succ i ih=>
  unfold rowsB at ih ⊢
  rw[List.range_succ,List.flatMap_append,List.length_append]
  simp only[List.flatMap_cons,List.flatMap_nil,List.append_nil]
  have:=vB_len (p.own.getD i 0) (p.vals.getD i 0) (p.chg.getD i false) (p.inb.getD i (false,0))
  omega
theorem headB_len (p:SPart):(headB p).length=6:=by simp[headB,be_len]
theorem putB_len (p:SPart):(putB p).length≤6+19*p.own.length:=by
 have:=rowsB_len p p.own.length
 unfold putB
 rw[List.length_append,headB_len]
 omega
theorem right_elem:∀{own vals:List Int} {inb:List Ml} {last:Int} {i:Nat} {v x:Int} {m:Ml},rightL last own vals inb=true→-1≤last→own[i]?=some v→vals[i]?=some x→inb[i]?=some m→0≤v∧v<512∧0≤x∧x≤4611686018427387904∧(m.1=true→0≤m.2∧m.2≤4611686018427387904):=by
 intro own
 induction own with
 | nil=>intro vals inb last i v x m _ _ h;simp at h
 | cons v0 own ih=>
  intro vals inb last i v x m h hl h1 h2 h3
  cases vals with
  | nil=>simp at h2
  | cons x0 vals=>
   cases inb with
   | nil=>simp at h3
   | cons m0 inb=>
    unfold rightL at h
    simp only[Bool.and_eq_true,decide_eq_true_eq,Bool.or_eq_true,Bool.not_eq_true'] at h
    obtain⟨⟨⟨⟨a1,a2⟩,a3⟩,a4⟩,a5⟩:=h
    cases i with
    | zero=>
     simp only[List.getElem?_cons_zero,Option.some.injEq] at h1 h2 h3
     subst h1 h2 h3
     have b3:=inB_iff.1 a3
     refine⟨by omega,a2,b3.1,b3.2,fun hm=>?_⟩
     rcases a4 with a4 | a4
     ·rw[hm] at a4;cases a4
     exact inB_iff.1 a4
    | succ i=>exact ih a5 (by omega) (by simpa using h1) (by simpa using h2) (by simpa using h3)
theorem right_parts {p:SPart} (h:rightB p=true):0≤p.step∧p.step≤2000∧p.vals.length=p.own.length∧p.chg.length=p.own.length∧p.inb.length=p.own.length∧rightL (-1) p.own p.vals p.inb=true:=by
 unfold rightB at h
 simp only[Bool.and_eq_true,decide_eq_true_eq] at h
 exact⟨h.1.1.1.1.1,h.1.1.1.1.2,h.1.1.1.2,h.1.1.2,h.1.2,h.2⟩
def putCode (p:SPart):Int:=if rightB p=true then 0 else 4
def putOut (p:SPart):List UInt8:=if rightB p=true then putB p else []
def PutPost (w:World) (bs:List UInt8) (code:Int) (e:Ending) (w':World):Prop:=∃(A:Option Addr) (c n:Nat),bs.length=n∧e = .returned (.tuple #[.slice A n c,.int .i64 code])∧Rd w' w'.heap.size A (u8s bs)∧n≤c∧c≤9223372036854775807∧Below w.heap.size w w'
end Go.Proofs.YtpojjmbalgmcoaaGreat

/- Lemmas: Mrx. -/
import Derived.Test.YtpojjmbalgmcoaaGreatProg
import Derived.Lib.Hide
import Derived.WalkSpells
import Derived.WalkMore
import Derived.Deep.Strs
import Derived.Test.YtpojjmbalgmcoaaGreatStWw44
import Derived.Test.YtpojjmbalgmcoaaGreatStWw46
set_option linter.unusedVariables false
set_option linter.unusedSimpArgs false
set_option maxRecDepth 100000
set_option maxHeartbeats 16000000
namespace Go.Proofs.YtpojjmbalgmcoaaGreat
open Go.RowKit
def RdY (w:World) (X:Option Nat) (A:Option Addr) (xs:List Value):Prop:=Rd w w.heap.size A xs∧(xs≠[]→∀b off,A=some ⟨b,off,none⟩→some b≠X)
theorem RdY.next {w w':World} {X:Option Nat} {A:Option Addr} {xs:List Value} (h:RdY w X A xs) (hb:Below w.heap.size w w'):RdY w' X A xs:=⟨h.1.next hb,h.2⟩
theorem RdY.grown {w w':World} {X X':Option Nat} {A:Option Addr} {xs:List Value} (h:RdY w X A xs) (hg:w.grownBy w' X) (hX:X'=X∨X'=some w.heap.size):RdY w' X' A xs:=by
 refine⟨fun hn=>?_,fun hn b off e=>?_⟩
 ·obtain⟨b,off,rfl,hb,hc⟩:=h.1 hn
  exact⟨b,off,rfl,Nat.lt_of_lt_of_le hb hg.size,fun j u hu=>(World.cell?_of_block (hg.block b hb (h.2 hn b off rfl))).trans (hc j u hu)⟩
 rcases hX with rfl | rfl
 ·exact h.2 hn b off e
 obtain⟨b',off',e',hb,_⟩:=h.1 hn
 rw[e] at e'
 injection e' with e'
 injection e' with e1 e2
 intro h1
 injection h1 with h1
 omega
theorem RdY.new {w:World} {X:Option Nat} {A:Option Addr} {xs:List Value} {B:Nat} (h:Rd w w.heap.size A xs) (hn:NewA B A) (hX:∀g,X=some g→g<B):RdY w X A xs:=
 ⟨h,fun _ b off e h1=>by have:=hn b off e;have:=hX b h1.symm;omega⟩
theorem RdY.other {w w':World} {X Y:Option Nat} {A:Option Addr} {xs:List Value} (h:RdY w Y A xs) (hX:RdY w X A xs) (hg:w.grownBy w' X):RdY w' Y A xs:=⟨(hX.grown hg (.inl rfl)).1,h.2⟩
def MRX (B:Nat) (w:World) (rs:List (List Ms)) (A:Option Addr) (n c:Nat) (Y:Option Nat):Prop:=
 ∃hs,w.ownsRow B 166 1 (.slice A n c) n hs∧rs.length=n∧∀(q:Nat) (r:List Ms),rs[q]?=some r→∃A' c',hs[q]?=some (Value.slice A' r.length c')∧(RdY w (Value.slice A n c).ownBlock A' (msFlat r)∧RdY w Y A' (msFlat r))∧NewA B A'
section
variable {B:Nat} {w w':World} {rs:List (List Ms)} {A:Option Addr} {n c:Nat} {Y:Option Nat}
theorem MRX.zero (B:Nat) (w:World) (Y:Option Nat):MRX B w [] none 0 0 Y:=⟨[],World.ownsRow_nil _ _ _ _,rfl,fun q r h=>by cases h⟩
theorem MRX.next (h:MRX B w rs A n c Y) (hb:Below w.heap.size w w'):MRX B w' rs A n c Y:=by
 obtain⟨hs,ho,hl,hm⟩:=h
 refine⟨hs,own_below ho hb (fun g hg=>(ho.lt g hg).2),hl,fun q r hr=>?_⟩
 obtain⟨A',c',h1,h2,h3⟩:=hm q r hr
 exact⟨A',c',h1,⟨h2.1.next hb,h2.2.next hb⟩,h3⟩
theorem MRX.lt (h:MRX B w rs A n c Y) {g:Nat} (hg:(Value.slice A n c).ownBlock=some g):g<w.heap.size:=by
 obtain⟨hs,ho,_,_⟩:=h
 exact (ho.lt g hg).2
theorem MRX.len (h:MRX B w rs A n c Y):rs.length=n:=by obtain⟨_,_,h,_⟩:=h;exact h
theorem MRX.step {z y:World} {r:List Ms} {A' A2:Option Addr} {c' c2:Nat} {hs:List Value} (h:∀(q:Nat) (x:List Ms),rs[q]?=some x→∃A' c',hs[q]?=some (Value.slice A' x.length c')∧(RdY z (Value.slice A n c).ownBlock A' (msFlat x)∧RdY z Y A' (msFlat x))∧NewA B A') (hl:rs.length=n) (hhs:hs.length=n)
  (hr:(RdY z (Value.slice A n c).ownBlock A' (msFlat r)∧RdY z Y A' (msFlat r))∧NewA B A') (hg:z.grownBy y (Value.slice A n c).ownBlock) (hX:(Value.slice A2 (n+1) c2).ownBlock=(Value.slice A n c).ownBlock∨(Value.slice A2 (n+1) c2).ownBlock=some z.heap.size)
  (own2:y.ownsRow B 166 1 (.slice A2 (n+1) c2) (n+1) (hs ++ [.slice A' r.length c'])):MRX B y (rs ++ [r]) A2 (n+1) c2 Y:=by
 refine⟨_,own2,by simp[hl],fun q x hx=>?_⟩
 by_cases hq:q<n
 ·rw[List.getElem?_append_left (by omega)] at hx
  obtain⟨A9,c9,h1,h2,h3⟩:=h q x hx
  exact⟨A9,c9,by rw[List.getElem?_append_left (by omega)];exact h1,⟨h2.1.grown hg hX,h2.2.other h2.1 hg⟩,h3⟩
 have hq2:q=n:=by
  have:=(List.getElem?_eq_some_iff.1 hx).1
  simp at this
  omega
 subst hq2
 rw[List.getElem?_append_right (by omega),hl,Nat.sub_self] at hx
 obtain rfl:=Option.some.inj hx
 exact⟨A',c',by rw[List.getElem?_append_right (by omega),hhs,Nat.sub_self];rfl,⟨hr.1.1.grown hg hX,hr.1.2.other hr.1.1 hg⟩,hr.2⟩
theorem RdY.set {X:Option Nat} {A:Option Addr} {xs:List Value} {b j:Nat} {u:Value} (h:RdY w X A xs) (hn:NewA B A) (hb:b<B):RdY (w.setCell ⟨b,j,none⟩ u) X A xs:=by
 refine⟨fun hx=>?_,h.2⟩
 obtain⟨g,off,rfl,hg,hc⟩:=h.1 hx
 have hg2:=hn g off rfl
 exact⟨g,off,rfl,by rw[World.size_setCell];exact hg,fun q v hq=>(World.cell?_of_block (Below.heap_setCell _ _ _ _ (by show g≠b;omega))).trans (hc q v hq)⟩
theorem MRX.set {b j:Nat} {u:Value} (h:MRX B w rs A n c Y) (hb:b<B):MRX B (w.setCell ⟨b,j,none⟩ u) rs A n c Y:=by
 obtain⟨hs,ho,hl,hm⟩:=h
 refine⟨hs,own_set ho hb,hl,fun q r hr=>?_⟩
 obtain⟨A',c',h1,h2,h3⟩:=hm q r hr
 exact⟨A',c',h1,⟨h2.1.set h3 hb,h2.2.set h3 hb⟩,h3⟩
theorem MRX.ne {base2 size2 n2:Nat} {e2:TypeId} {v2:Value} {xs2:List Value} (h:MRX B w rs A n c Y) (h2:w.ownsRow base2 e2 size2 v2 n2 xs2) (he:166≠e2):(Value.slice A n c).ownBlock=none∨(Value.slice A n c).ownBlock≠v2.ownBlock:=by
 obtain⟨hs,ho,_,_⟩:=h
 cases hv:(Value.slice A n c).ownBlock with
 | none=>exact .inl rfl
 | some r=>
  right
  intro e9
  obtain⟨_,cs,fr,h3⟩:=own_cells ho r hv
  obtain⟨_,cs2,fr2,h4⟩:=own_cells h2 r e9.symm
  rw[h3] at h4
  injection h4 with h4
  injection h4 with _ h5
  exact he h5
theorem MRX.rows (h:MRX B w rs A n c Y):MRs w w.heap.size A rs:=fun hn=>by
 obtain⟨hs,ho,hl,hm⟩:=h
 have hne:hs≠[]:=fun e=>by
  have hpos:0<rs.length:=List.length_pos_iff.2 hn
  obtain⟨A',c',h1,_⟩:=hm 0 rs[0] (List.getElem?_eq_getElem hpos)
  rw[e] at h1
  cases h1
 obtain⟨b,off,rfl,hb,hc⟩:=Rd.of_own ho hne
 refine⟨b,off,rfl,hb,fun i r hr=>?_⟩
 obtain⟨A',c',h1,h2,_⟩:=hm i r hr
 refine⟨[.slice A' r.length c'],rfl,⟨A',c',rfl,Mss.of_rd h2.1.1⟩,fun j u hu=>?_⟩
 have hj:j=0:=by
  have:=(List.getElem?_eq_some_iff.1 hu).1
  simp at this
  omega
 subst hj
 obtain rfl:=Option.some.inj hu
 have:=hc i _ h1
 simpa using this
end
end Go.Proofs.YtpojjmbalgmcoaaGreat

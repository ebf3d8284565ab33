/- Lemmas: Stp, Far. -/
import Derived.Test.YtpojjmbalgmcoaaGreatStWw43
import Derived.Test.YtpojjmbalgmcoaaGreatStWw45
set_option linter.unusedVariables false
set_option linter.unusedSimpArgs false
set_option maxRecDepth 100000
set_option maxHeartbeats 16000000
namespace Go.Proofs.YtpojjmbalgmcoaaGreat
open Go.RowKit
structure StepT (T:TypeId) (B m:Nat) (W z:World):Prop where
 others:KeepsOthers W z
 kp:KpM B m W z
 cells:∀b cs T' fr,W.heap[b]?=some (.cells cs T' fr)→T'≠T→b≠m→z.heap[b]?=some (.cells cs T' fr)
 os:z.os=W.os
 tape:z.tape=W.tape
 output:z.output=W.output
theorem own_cells {W:World} {base size n:Nat} {e:TypeId} {v:Value} {xs:List Value} (h:W.ownsRow base e size v n xs):∀r,v.ownBlock=some r→base≤r∧∃cs fr,W.heap[r]?=some (.cells cs e fr):=fun r hr=>by
 rcases h.2 with ⟨hv,_⟩ | ⟨g,cap,cur,hv,hgb,hc,hrest⟩
 ·rw[hv] at hr;cases hr
 rw[hv] at hr
 obtain rfl:=Option.some.inj hr
 exact⟨hgb,_,_,hc⟩
theorem step_grown {T TM:TypeId} {B m:Nat} {W y:World} {size n j:Nat} {v u:Value} {xs:List Value} {cs:Array Value} {fr:Nat×Nat} (o:Obj) (hB:B≤W.heap.size) (hown:W.ownsRow B T size v n xs) (hm:W.heap[m]?=some (.cells cs TM fr)) (hT:TM≠T)
  (hg:(W.drew.alloc o).grownBy y v.ownBlock):y.heap[m]?=some (.cells cs TM fr)∧StepT T B m W (y.setCell ⟨m,j,none⟩ u):=by
 have hal:∀b,b<W.heap.size→(W.drew.alloc o).heap[b]?=W.heap[b]?:=fun b hb=>Below.heap_alloc W.drew o b hb
 have hsz:W.heap.size≤(W.drew.alloc o).heap.size:=by simp
 have hoc:=own_cells hown
 have hlt:∀{b:Nat} {o':Obj},W.heap[b]?=some o'→b<W.heap.size:=fun h=>(Array.getElem?_eq_some_iff.1 h).1
 have hne:∀b cs' T' fr',W.heap[b]?=some (Obj.cells cs' T' fr')→T'≠T→some b≠v.ownBlock:=fun b cs' T' fr' h1 h2 e=>by
  obtain⟨_,cs2,fr2,h3⟩:=hoc b e.symm
  rw[h1] at h3
  injection h3 with h3
  injection h3 with _ h4
  exact h2 h4
 have hcell:∀b cs' T' fr',W.heap[b]?=some (Obj.cells cs' T' fr')→T'≠T→y.heap[b]?=some (Obj.cells cs' T' fr'):=fun b cs' T' fr' h1 h2=>
  (hg.block b (Nat.lt_of_lt_of_le (hlt h1) hsz) (hne b cs' T' fr' h1 h2)).trans ((hal b (hlt h1)).trans h1)
 have hmy:=hcell m cs TM fr hm hT
 refine⟨hmy,⟨⟨?_,fun k o' hk hc=>?_⟩,⟨?_,fun b h1 h2=>?_⟩,fun b cs' T' fr' h1 h2 h3=>?_,?_,?_,?_⟩⟩
 ·rw[World.size_setCell];exact Nat.le_trans hsz hg.size
 ·have hkm:k≠m:=fun e=>by rw[e,hm] at hk;cases hk;cases hc
  rw[Below.heap_setCell _ _ _ _ hkm]
  refine (hg.block k (Nat.lt_of_lt_of_le (hlt hk) hsz) (fun e=>?_)).trans ((hal k (hlt hk)).trans hk)
  obtain⟨_,cs2,fr2,h3⟩:=hoc k e.symm
  rw[hk] at h3
  cases h3
  cases hc
 ·rw[World.size_setCell];exact Nat.le_trans hsz hg.size
 ·rw[Below.heap_setCell _ _ _ _ h2]
  by_cases hb:b<W.heap.size
  ·exact (hg.block b (Nat.lt_of_lt_of_le hb hsz) (fun e=>by have:=(hoc b e.symm).1;omega)).trans (hal b hb)
  omega
 ·rw[Below.heap_setCell _ _ _ _ h3]
  exact hcell b cs' T' fr' h1 h2
 ·exact hg.os
 ·exact hg.tape
 exact hg.output
theorem grown_cell {T T':TypeId} {B b:Nat} {W y:World} {size n:Nat} {v:Value} {xs:List Value} {cs:Array Value} {fr:Nat×Nat} (o:Obj) (hown:W.ownsRow B T size v n xs) (hm:W.heap[b]?=some (.cells cs T' fr)) (hT:T'≠T)
  (hg:(W.drew.alloc o).grownBy y v.ownBlock):y.heap[b]?=some (.cells cs T' fr):=by
 have hlt:b<W.heap.size:=(Array.getElem?_eq_some_iff.1 hm).1
 refine (hg.block b (Nat.lt_of_lt_of_le hlt (by simp)) (fun e=>?_)).trans ((Below.heap_alloc W.drew o b hlt).trans hm)
 obtain⟨_,cs2,fr2,h3⟩:=own_cells hown b e.symm
 rw[hm] at h3
 injection h3 with h3
 injection h3 with _ h4
 exact hT h4
theorem own_step {T e TM:TypeId} {B m base size n:Nat} {W z:World} {v:Value} {xs:List Value} {cs:Array Value} {fr:Nat×Nat} (hs:StepT T B m W z) (h:W.ownsRow base e size v n xs) (hm:W.heap[m]?=some (.cells cs TM fr)) (hT:e≠T) (hM:e≠TM):z.ownsRow base e size v n xs:=by
 refine⟨h.1,?_⟩
 rcases h.2 with h0 | ⟨g,cap,cur,hv,hgb,hc,hrest⟩
 ·exact .inl h0
 refine .inr ⟨g,cap,cur,hv,hgb,hs.cells _ _ _ _ hc hT (fun e9=>?_),hrest⟩
 rw[e9,hm] at hc
 injection hc with hc
 injection hc with _ h4
 exact hM h4.symm
theorem own_set {e:TypeId} {base size n b j:Nat} {y:World} {v u:Value} {xs:List Value} (h:y.ownsRow base e size v n xs) (hb:b<base):(y.setCell ⟨b,j,none⟩ u).ownsRow base e size v n xs:=by
 refine⟨h.1,?_⟩
 rcases h.2 with h0 | ⟨g,cap,cur,hv,hgb,hc,hrest⟩
 ·exact .inl h0
 exact .inr ⟨g,cap,cur,hv,hgb,(Below.heap_setCell _ _ _ _ (by show g≠b;omega)).trans hc,hrest⟩
theorem VxIn.step {es:List Ed} {x:VX} {T TM:TypeId} {B m:Nat} {W z:World} {cs:Array Value} {fr:Nat×Nat} (h:VxIn es x W) (hs:StepT T B m W z) (hm:W.heap[m]?=some (.cells cs TM fr)) (hT:57≠T) (hM:57≠TM):VxIn es x z:=
 ⟨h.1,h.2.1,own_step hs h.2.2.1 hm hT hM,own_step hs h.2.2.2 hm hT hM⟩
theorem StepT.below {T:TypeId} {B m C:Nat} {W z:World} (hs:StepT T B m W z) (hC:C≤m) (hB:C≤B):Below C W z:=
 ⟨hs.os,hs.tape,hs.output,hs.kp.1,fun b hb=>hs.kp.2 b (Nat.lt_of_lt_of_le hb hB) (by omega)⟩
open Go.Shelf
structure FarS (b1 b2:Nat) (z f:World):Prop where
 os:f.os=z.os
 tape:f.tape=z.tape
 output:f.output=z.output
 size:f.heap.size=z.heap.size
 block:∀q,q≠b1→q≠b2→f.heap[q]?=z.heap[q]?
theorem FarS.refl (b1 b2:Nat) (z:World):FarS b1 b2 z z:=⟨rfl,rfl,rfl,rfl,fun _ _ _=>rfl⟩
theorem FarS.set {b1 b2:Nat} {z f:World} (h:FarS b1 b2 z f) {p:Addr} (hp:p.block=b1∨p.block=b2) (u:Value):FarS b1 b2 z (f.setCell p u):=by
 have hb:=(Below.refl 0 f).setCell (Nat.zero_le p.block) u
 exact⟨hb.os.trans h.os,hb.tape.trans h.tape,hb.output.trans h.output,(World.size_setCell _ _ _).trans h.size,fun q h1 h2=>(Below.heap_setCell _ _ _ q (by rcases hp with e | e <;> rw[e] <;> assumption)).trans (h.block q h1 h2)⟩
theorem FarS.drew {b1 b2:Nat} {z f:World} (h:FarS b1 b2 z f):FarS b1 b2 z f.drew:=⟨h.os,h.tape,h.output,h.size,h.block⟩
theorem FarS.trans {b1 b2:Nat} {z f g:World} (h:FarS b1 b2 z f) (h2:FarS b1 b2 f g):FarS b1 b2 z g:=⟨h2.os.trans h.os,h2.tape.trans h.tape,h2.output.trans h.output,h2.size.trans h.size,fun q h3 h4=>(h2.block q h3 h4).trans (h.block q h3 h4)⟩
theorem FarS.below {b1 b2 B:Nat} {z f:World} (h:FarS b1 b2 z f) (h1:B≤b1) (h2:B≤b2):Below B z f:=⟨h.os,h.tape,h.output,Nat.le_of_eq h.size.symm,fun q hq=>h.block q (by omega) (by omega)⟩
theorem FarS.rd {b1 b2 C:Nat} {z f:World} {A:Option Addr} {xs:List Value} (h:FarS b1 b2 z f) (hr:Rd z z.heap.size A xs) (hn:NewA C A) (h1:b1<C) (h2:b2<C):Rd f f.heap.size A xs:=fun hx=>by
 obtain⟨g,off,rfl,hg,hc⟩:=hr hx
 have hg2:=hn g off rfl
 exact⟨g,off,rfl,by rw[h.size];exact hg,fun q v hq=>(World.cell?_of_block (h.block g (by omega) (by omega))).trans (hc q v hq)⟩
theorem set_pair {w:World} {b:Nat} {a0 a1 x0 x1:Value} {T:TypeId} (h:w.heap[b]?=some (.cells #[a0,a1] T)):((w.setCell ⟨b,0,none⟩ x0).setCell ⟨b,1,none⟩ x1).heap[b]?=some (.cells #[x0,x1] T):=by
 have h1:=heap_setCell_same w b 0 _ _ x0 h
 have h2:=heap_setCell_same _ b 1 _ _ x1 h1
 simpa using h2
theorem set_six {w:World} {b:Nat} {a0 a1 a2 a3 a4 a5 x0 x1 x2 x3 x4 x5:Value} {T:TypeId} (h:w.heap[b]?=some (.cells #[a0,a1,a2,a3,a4,a5] T)):((((((w.setCell ⟨b,0,none⟩ x0).setCell ⟨b,1,none⟩ x1).setCell ⟨b,2,none⟩ x2).setCell ⟨b,3,none⟩ x3).setCell ⟨b,4,none⟩ x4).setCell ⟨b,5,none⟩ x5).heap[b]?=some (.cells #[x0,x1,x2,x3,x4,x5] T):=by
 have h1:=heap_setCell_same w b 0 _ _ x0 h
 have h2:=heap_setCell_same _ b 1 _ _ x1 h1
 have h3:=heap_setCell_same _ b 2 _ _ x2 h2
 have h4:=heap_setCell_same _ b 3 _ _ x3 h3
 have h5:=heap_setCell_same _ b 4 _ _ x4 h4
 have h6:=heap_setCell_same _ b 5 _ _ x5 h5
 simpa using h6
theorem set_at3 {w:World} {b:Nat} {a0 a1 a2 a3 a4 a5 x:Value} {T:TypeId} (h:w.heap[b]?=some (.cells #[a0,a1,a2,a3,a4,a5] T)):(w.setCell ⟨b,3,none⟩ x).heap[b]?=some (.cells #[a0,a1,a2,x,a4,a5] T):=by
 simpa using heap_setCell_same w b 3 _ _ x h
theorem set_at4 {w:World} {b:Nat} {a0 a1 a2 a3 a4 a5 x:Value} {T:TypeId} (h:w.heap[b]?=some (.cells #[a0,a1,a2,a3,a4,a5] T)):(w.setCell ⟨b,4,none⟩ x).heap[b]?=some (.cells #[a0,a1,a2,a3,x,a5] T):=by
 simpa using heap_setCell_same w b 4 _ _ x h
theorem set_at5 {w:World} {b:Nat} {a0 a1 a2 a3 a4 a5 x:Value} {T:TypeId} (h:w.heap[b]?=some (.cells #[a0,a1,a2,a3,a4,a5] T)):(w.setCell ⟨b,5,none⟩ x).heap[b]?=some (.cells #[a0,a1,a2,a3,a4,x] T):=by
 simpa using heap_setCell_same w b 5 _ _ x h
theorem set_at1 {w:World} {b:Nat} {a0 a1 a2 a3 a4 a5 x:Value} {T:TypeId} (h:w.heap[b]?=some (.cells #[a0,a1,a2,a3,a4,a5] T)):(w.setCell ⟨b,1,none⟩ x).heap[b]?=some (.cells #[a0,x,a2,a3,a4,a5] T):=by
 simpa using heap_setCell_same w b 1 _ _ x h
theorem set_at2 {w:World} {b:Nat} {a0 a1 a2 a3 a4 a5 x:Value} {T:TypeId} (h:w.heap[b]?=some (.cells #[a0,a1,a2,a3,a4,a5] T)):(w.setCell ⟨b,2,none⟩ x).heap[b]?=some (.cells #[a0,a1,x,a3,a4,a5] T):=by
 simpa using heap_setCell_same w b 2 _ _ x h
theorem far6 (z:World) (b1 b2:Nat) (x0 x1 x2 x3 x4 x5:Value) {a0 a1 a2 a3 a4 a5:Value} {T:TypeId} (h:z.heap[b2]?=some (.cells #[a0,a1,a2,a3,a4,a5] T)) :
  FarS b1 b2 z ((((((z.setCell ⟨b2,0,none⟩ x0).setCell ⟨b2,1,none⟩ x1).setCell ⟨b2,2,none⟩ x2).setCell ⟨b2,3,none⟩ x3).setCell ⟨b2,4,none⟩ x4).setCell ⟨b2,5,none⟩ x5)∧((((((z.setCell ⟨b2,0,none⟩ x0).setCell ⟨b2,1,none⟩ x1).setCell ⟨b2,2,none⟩ x2).setCell ⟨b2,3,none⟩ x3).setCell ⟨b2,4,none⟩ x4).setCell ⟨b2,5,none⟩ x5).heap[b2]?=some (.cells #[x0,x1,x2,x3,x4,x5] T):=
 ⟨FarS.set (FarS.set (FarS.set (FarS.set (FarS.set (FarS.set (FarS.refl b1 b2 z) (p:=⟨b2,0,none⟩) (Or.inr rfl) x0) (p:=⟨b2,1,none⟩) (Or.inr rfl) x1) (p:=⟨b2,2,none⟩) (Or.inr rfl) x2) (p:=⟨b2,3,none⟩) (Or.inr rfl) x3) (p:=⟨b2,4,none⟩) (Or.inr rfl) x4) (p:=⟨b2,5,none⟩) (Or.inr rfl) x5,set_six h⟩
theorem cells6 {w:World} {b:Nat} {x0 x1 x2 x3 x4 x5:Value} {T:TypeId} (h:w.heap[b]?=some (.cells #[x0,x1,x2,x3,x4,x5] T)) :
  w.cell? ⟨b,0,none⟩=some x0∧w.cell? ⟨b,1,none⟩=some x1∧w.cell? ⟨b,2,none⟩=some x2∧w.cell? ⟨b,3,none⟩=some x3∧w.cell? ⟨b,4,none⟩=some x4∧w.cell? ⟨b,5,none⟩=some x5:=
 ⟨cell_of_row _ _ 0 _ _ _ h,cell_of_row _ _ 1 _ _ _ h,cell_of_row _ _ 2 _ _ _ h,cell_of_row _ _ 3 _ _ _ h,cell_of_row _ _ 4 _ _ _ h,cell_of_row _ _ 5 _ _ _ h⟩
end Go.Proofs.YtpojjmbalgmcoaaGreat

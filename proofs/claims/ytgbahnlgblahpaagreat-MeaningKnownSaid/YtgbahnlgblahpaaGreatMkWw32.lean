/- Lemmas: Stp, Far, Mrw, Mhm, Mhu, Mhq, Mlr, Mlb. -/
import Derived.WalkSpells
import Derived.WalkMore
import Derived.IntWalk
import Derived.Deep.DeepCutAuto
import Derived.Deep.CutBlock
import Derived.Test.YtgbahnlgblahpaaGreatMkWw24
import Derived.Test.YtgbahnlgblahpaaGreatMkWw29
import Derived.Test.YtgbahnlgblahpaaGreatMkWw31
set_option linter.unusedVariables false
set_option linter.unusedSimpArgs false
set_option maxRecDepth 100000
set_option maxHeartbeats 16000000
namespace Go.Proofs.YtgbahnlgblahpaaGreat
open Go.RowKit
structure StepT (T:TypeId) (B m:Nat) (W z:World):Prop where
 others:KeepsOthers W z
 kp:KpM B m W z
 cells:∀b cs T' fr,W.heap[b]?=some (.cells cs T' fr)→T'≠T→b≠m→z.heap[b]?=some (.cells cs T' fr)
 os:z.os=W.os
 tape:z.tape=W.tape
 output:z.output=W.output
theorem own_cells {W:World} {base size n:Nat} {e:TypeId} {v:Value} {xs:List Value} (h:W.ownsRow base e size v n xs):∀r,v.ownBlock=some r→base≤r∧∃cs fr,W.heap[r]?=some (.cells cs e fr):=fun r hr=>by
 rcases h.2 with ⟨hv,_⟩ | ⟨g,cap,cur,hv,hgb,hc,hrest⟩
 ·rw[hv] at hr;cases hr
 rw[hv] at hr
 obtain rfl:=Option.some.inj hr
 exact⟨hgb,_,_,hc⟩
theorem step_grown {T TM:TypeId} {B m:Nat} {W y:World} {size n j:Nat} {v u:Value} {xs:List Value} {cs:Array Value} {fr:Nat×Nat} (o:Obj) (hB:B≤W.heap.size) (hown:W.ownsRow B T size v n xs) (hm:W.heap[m]?=some (.cells cs TM fr)) (hT:TM≠T)
  (hg:(W.drew.alloc o).grownBy y v.ownBlock):y.heap[m]?=some (.cells cs TM fr)∧StepT T B m W (y.setCell ⟨m,j,none⟩ u):=by
 have hal:∀b,b<W.heap.size→(W.drew.alloc o).heap[b]?=W.heap[b]?:=fun b hb=>Below.heap_alloc W.drew o b hb
 have hsz:W.heap.size≤(W.drew.alloc o).heap.size:=by simp
 have hoc:=own_cells hown
 have hlt:∀{b:Nat} {o':Obj},W.heap[b]?=some o'→b<W.heap.size:=fun h=>(Array.getElem?_eq_some_iff.1 h).1
 have hne:∀b cs' T' fr',W.heap[b]?=some (Obj.cells cs' T' fr')→T'≠T→some b≠v.ownBlock:=fun b cs' T' fr' h1 h2 e=>by
  obtain⟨_,cs2,fr2,h3⟩:=hoc b e.symm
  rw[h1] at h3
  injection h3 with h3
  injection h3 with _ h4
  exact h2 h4
 have hcell:∀b cs' T' fr',W.heap[b]?=some (Obj.cells cs' T' fr')→T'≠T→y.heap[b]?=some (Obj.cells cs' T' fr'):=fun b cs' T' fr' h1 h2=>
  (hg.block b (Nat.lt_of_lt_of_le (hlt h1) hsz) (hne b cs' T' fr' h1 h2)).trans ((hal b (hlt h1)).trans h1)
 have hmy:=hcell m cs TM fr hm hT
 refine⟨hmy,⟨⟨?_,fun k o' hk hc=>?_⟩,⟨?_,fun b h1 h2=>?_⟩,fun b cs' T' fr' h1 h2 h3=>?_,?_,?_,?_⟩⟩
 ·rw[World.size_setCell];exact Nat.le_trans hsz hg.size
 ·have hkm:k≠m:=fun e=>by rw[e,hm] at hk;cases hk;cases hc
  rw[Below.heap_setCell _ _ _ _ hkm]
  refine (hg.block k (Nat.lt_of_lt_of_le (hlt hk) hsz) (fun e=>?_)).trans ((hal k (hlt hk)).trans hk)
  obtain⟨_,cs2,fr2,h3⟩:=hoc k e.symm
  rw[hk] at h3
  cases h3
  cases hc
 ·rw[World.size_setCell];exact Nat.le_trans hsz hg.size
 ·rw[Below.heap_setCell _ _ _ _ h2]
  by_cases hb:b<W.heap.size
  ·exact (hg.block b (Nat.lt_of_lt_of_le hb hsz) (fun e=>by have:=(hoc b e.symm).1;omega)).trans (hal b hb)
  omega
 ·rw[Below.heap_setCell _ _ _ _ h3]
  exact hcell b cs' T' fr' h1 h2
 ·exact hg.os
 ·exact hg.tape
 exact hg.output
theorem grown_cell {T T':TypeId} {B b:Nat} {W y:World} {size n:Nat} {v:Value} {xs:List Value} {cs:Array Value} {fr:Nat×Nat} (o:Obj) (hown:W.ownsRow B T size v n xs) (hm:W.heap[b]?=some (.cells cs T' fr)) (hT:T'≠T)
  (hg:(W.drew.alloc o).grownBy y v.ownBlock):y.heap[b]?=some (.cells cs T' fr):=by
 have hlt:b<W.heap.size:=(Array.getElem?_eq_some_iff.1 hm).1
 refine (hg.block b (Nat.lt_of_lt_of_le hlt (by simp)) (fun e=>?_)).trans ((Below.heap_alloc W.drew o b hlt).trans hm)
 obtain⟨_,cs2,fr2,h3⟩:=own_cells hown b e.symm
 rw[hm] at h3
 injection h3 with h3
 injection h3 with _ h4
 exact hT h4
theorem own_step {T e TM:TypeId} {B m base size n:Nat} {W z:World} {v:Value} {xs:List Value} {cs:Array Value} {fr:Nat×Nat} (hs:StepT T B m W z) (h:W.ownsRow base e size v n xs) (hm:W.heap[m]?=some (.cells cs TM fr)) (hT:e≠T) (hM:e≠TM):z.ownsRow base e size v n xs:=by
 refine⟨h.1,?_⟩
 rcases h.2 with h0 | ⟨g,cap,cur,hv,hgb,hc,hrest⟩
 ·exact .inl h0
 refine .inr ⟨g,cap,cur,hv,hgb,hs.cells _ _ _ _ hc hT (fun e9=>?_),hrest⟩
 rw[e9,hm] at hc
 injection hc with hc
 injection hc with _ h4
 exact hM h4.symm
theorem own_set {e:TypeId} {base size n b j:Nat} {y:World} {v u:Value} {xs:List Value} (h:y.ownsRow base e size v n xs) (hb:b<base):(y.setCell ⟨b,j,none⟩ u).ownsRow base e size v n xs:=by
 refine⟨h.1,?_⟩
 rcases h.2 with h0 | ⟨g,cap,cur,hv,hgb,hc,hrest⟩
 ·exact .inl h0
 exact .inr ⟨g,cap,cur,hv,hgb,(Below.heap_setCell _ _ _ _ (by show g≠b;omega)).trans hc,hrest⟩
theorem VxIn.step {es:List Ed} {x:VX} {T TM:TypeId} {B m:Nat} {W z:World} {cs:Array Value} {fr:Nat×Nat} (h:VxIn es x W) (hs:StepT T B m W z) (hm:W.heap[m]?=some (.cells cs TM fr)) (hT:46≠T) (hM:46≠TM):VxIn es x z:=
 ⟨h.1,h.2.1,own_step hs h.2.2.1 hm hT hM,own_step hs h.2.2.2 hm hT hM⟩
theorem StepT.below {T:TypeId} {B m C:Nat} {W z:World} (hs:StepT T B m W z) (hC:C≤m) (hB:C≤B):Below C W z:=
 ⟨hs.os,hs.tape,hs.output,hs.kp.1,fun b hb=>hs.kp.2 b (Nat.lt_of_lt_of_le hb hB) (by omega)⟩
open Go.Shelf
structure FarS (b1 b2:Nat) (z f:World):Prop where
 os:f.os=z.os
 tape:f.tape=z.tape
 output:f.output=z.output
 size:f.heap.size=z.heap.size
 block:∀q,q≠b1→q≠b2→f.heap[q]?=z.heap[q]?
theorem FarS.refl (b1 b2:Nat) (z:World):FarS b1 b2 z z:=⟨rfl,rfl,rfl,rfl,fun _ _ _=>rfl⟩
theorem FarS.set {b1 b2:Nat} {z f:World} (h:FarS b1 b2 z f) {p:Addr} (hp:p.block=b1∨p.block=b2) (u:Value):FarS b1 b2 z (f.setCell p u):=by
 have hb:=(Below.refl 0 f).setCell (Nat.zero_le p.block) u
 exact⟨hb.os.trans h.os,hb.tape.trans h.tape,hb.output.trans h.output,(World.size_setCell _ _ _).trans h.size,fun q h1 h2=>(Below.heap_setCell _ _ _ q (by rcases hp with e | e <;> rw[e] <;> assumption)).trans (h.block q h1 h2)⟩
theorem FarS.drew {b1 b2:Nat} {z f:World} (h:FarS b1 b2 z f):FarS b1 b2 z f.drew:=⟨h.os,h.tape,h.output,h.size,h.block⟩
theorem FarS.trans {b1 b2:Nat} {z f g:World} (h:FarS b1 b2 z f) (h2:FarS b1 b2 f g):FarS b1 b2 z g:=⟨h2.os.trans h.os,h2.tape.trans h.tape,h2.output.trans h.output,h2.size.trans h.size,fun q h3 h4=>(h2.block q h3 h4).trans (h.block q h3 h4)⟩
theorem FarS.below {b1 b2 B:Nat} {z f:World} (h:FarS b1 b2 z f) (h1:B≤b1) (h2:B≤b2):Below B z f:=⟨h.os,h.tape,h.output,Nat.le_of_eq h.size.symm,fun q hq=>h.block q (by omega) (by omega)⟩
theorem FarS.rd {b1 b2 C:Nat} {z f:World} {A:Option Addr} {xs:List Value} (h:FarS b1 b2 z f) (hr:Rd z z.heap.size A xs) (hn:NewA C A) (h1:b1<C) (h2:b2<C):Rd f f.heap.size A xs:=fun hx=>by
 obtain⟨g,off,rfl,hg,hc⟩:=hr hx
 have hg2:=hn g off rfl
 exact⟨g,off,rfl,by rw[h.size];exact hg,fun q v hq=>(World.cell?_of_block (h.block g (by omega) (by omega))).trans (hc q v hq)⟩
theorem set_pair {w:World} {b:Nat} {a0 a1 x0 x1:Value} {T:TypeId} (h:w.heap[b]?=some (.cells #[a0,a1] T)):((w.setCell ⟨b,0,none⟩ x0).setCell ⟨b,1,none⟩ x1).heap[b]?=some (.cells #[x0,x1] T):=by
 have h1:=heap_setCell_same w b 0 _ _ x0 h
 have h2:=heap_setCell_same _ b 1 _ _ x1 h1
 simpa using h2
theorem set_six {w:World} {b:Nat} {a0 a1 a2 a3 a4 a5 x0 x1 x2 x3 x4 x5:Value} {T:TypeId} (h:w.heap[b]?=some (.cells #[a0,a1,a2,a3,a4,a5] T)):((((((w.setCell ⟨b,0,none⟩ x0).setCell ⟨b,1,none⟩ x1).setCell ⟨b,2,none⟩ x2).setCell ⟨b,3,none⟩ x3).setCell ⟨b,4,none⟩ x4).setCell ⟨b,5,none⟩ x5).heap[b]?=some (.cells #[x0,x1,x2,x3,x4,x5] T):=by
 have h1:=heap_setCell_same w b 0 _ _ x0 h
 have h2:=heap_setCell_same _ b 1 _ _ x1 h1
 have h3:=heap_setCell_same _ b 2 _ _ x2 h2
 have h4:=heap_setCell_same _ b 3 _ _ x3 h3
 have h5:=heap_setCell_same _ b 4 _ _ x4 h4
 have h6:=heap_setCell_same _ b 5 _ _ x5 h5
 simpa using h6
theorem far9 (z:World) (b1 b2:Nat) (v3 v4 v5 x0 x1 x2 x3 x4 x5:Value) {a0 a1 a2 a3 a4 a5:Value} {T:TypeId} (hne:b2≠b1) (h:z.heap[b2]?=some (.cells #[a0,a1,a2,a3,a4,a5] T)) :
  FarS b1 b2 z (((((((((z.setCell ⟨b1,3,none⟩ v3).setCell ⟨b1,4,none⟩ v4).setCell ⟨b1,5,none⟩ v5).setCell ⟨b2,0,none⟩ x0).setCell ⟨b2,1,none⟩ x1).setCell ⟨b2,2,none⟩ x2).setCell ⟨b2,3,none⟩ x3).setCell ⟨b2,4,none⟩ x4).setCell ⟨b2,5,none⟩ x5)∧(((((((((z.setCell ⟨b1,3,none⟩ v3).setCell ⟨b1,4,none⟩ v4).setCell ⟨b1,5,none⟩ v5).setCell ⟨b2,0,none⟩ x0).setCell ⟨b2,1,none⟩ x1).setCell ⟨b2,2,none⟩ x2).setCell ⟨b2,3,none⟩ x3).setCell ⟨b2,4,none⟩ x4).setCell ⟨b2,5,none⟩ x5).heap[b2]?=some (.cells #[x0,x1,x2,x3,x4,x5] T):=
 ⟨FarS.set (FarS.set (FarS.set (FarS.set (FarS.set (FarS.set (FarS.set (FarS.set (FarS.set (FarS.refl b1 b2 z) (p:=⟨b1,3,none⟩) (Or.inl rfl) v3) (p:=⟨b1,4,none⟩) (Or.inl rfl) v4) (p:=⟨b1,5,none⟩) (Or.inl rfl) v5) (p:=⟨b2,0,none⟩) (Or.inr rfl) x0) (p:=⟨b2,1,none⟩) (Or.inr rfl) x1) (p:=⟨b2,2,none⟩) (Or.inr rfl) x2) (p:=⟨b2,3,none⟩) (Or.inr rfl) x3) (p:=⟨b2,4,none⟩) (Or.inr rfl) x4) (p:=⟨b2,5,none⟩) (Or.inr rfl) x5,set_six ((Below.heap_setCell _ ⟨b1,5,none⟩ v5 b2 hne).trans ((Below.heap_setCell _ ⟨b1,4,none⟩ v4 b2 hne).trans ((Below.heap_setCell z ⟨b1,3,none⟩ v3 b2 hne).trans h)))⟩
theorem set_at3 {w:World} {b:Nat} {a0 a1 a2 a3 a4 a5 x:Value} {T:TypeId} (h:w.heap[b]?=some (.cells #[a0,a1,a2,a3,a4,a5] T)):(w.setCell ⟨b,3,none⟩ x).heap[b]?=some (.cells #[a0,a1,a2,x,a4,a5] T):=by
 simpa using heap_setCell_same w b 3 _ _ x h
theorem set_at4 {w:World} {b:Nat} {a0 a1 a2 a3 a4 a5 x:Value} {T:TypeId} (h:w.heap[b]?=some (.cells #[a0,a1,a2,a3,a4,a5] T)):(w.setCell ⟨b,4,none⟩ x).heap[b]?=some (.cells #[a0,a1,a2,a3,x,a5] T):=by
 simpa using heap_setCell_same w b 4 _ _ x h
theorem set_at5 {w:World} {b:Nat} {a0 a1 a2 a3 a4 a5 x:Value} {T:TypeId} (h:w.heap[b]?=some (.cells #[a0,a1,a2,a3,a4,a5] T)):(w.setCell ⟨b,5,none⟩ x).heap[b]?=some (.cells #[a0,a1,a2,a3,a4,x] T):=by
 simpa using heap_setCell_same w b 5 _ _ x h
theorem set_at1 {w:World} {b:Nat} {a0 a1 a2 a3 a4 a5 x:Value} {T:TypeId} (h:w.heap[b]?=some (.cells #[a0,a1,a2,a3,a4,a5] T)):(w.setCell ⟨b,1,none⟩ x).heap[b]?=some (.cells #[a0,x,a2,a3,a4,a5] T):=by
 simpa using heap_setCell_same w b 1 _ _ x h
theorem set_at2 {w:World} {b:Nat} {a0 a1 a2 a3 a4 a5 x:Value} {T:TypeId} (h:w.heap[b]?=some (.cells #[a0,a1,a2,a3,a4,a5] T)):(w.setCell ⟨b,2,none⟩ x).heap[b]?=some (.cells #[a0,a1,x,a3,a4,a5] T):=by
 simpa using heap_setCell_same w b 2 _ _ x h
theorem far6 (z:World) (b1 b2:Nat) (x0 x1 x2 x3 x4 x5:Value) {a0 a1 a2 a3 a4 a5:Value} {T:TypeId} (h:z.heap[b2]?=some (.cells #[a0,a1,a2,a3,a4,a5] T)) :
  FarS b1 b2 z ((((((z.setCell ⟨b2,0,none⟩ x0).setCell ⟨b2,1,none⟩ x1).setCell ⟨b2,2,none⟩ x2).setCell ⟨b2,3,none⟩ x3).setCell ⟨b2,4,none⟩ x4).setCell ⟨b2,5,none⟩ x5)∧((((((z.setCell ⟨b2,0,none⟩ x0).setCell ⟨b2,1,none⟩ x1).setCell ⟨b2,2,none⟩ x2).setCell ⟨b2,3,none⟩ x3).setCell ⟨b2,4,none⟩ x4).setCell ⟨b2,5,none⟩ x5).heap[b2]?=some (.cells #[x0,x1,x2,x3,x4,x5] T):=
 ⟨FarS.set (FarS.set (FarS.set (FarS.set (FarS.set (FarS.set (FarS.refl b1 b2 z) (p:=⟨b2,0,none⟩) (Or.inr rfl) x0) (p:=⟨b2,1,none⟩) (Or.inr rfl) x1) (p:=⟨b2,2,none⟩) (Or.inr rfl) x2) (p:=⟨b2,3,none⟩) (Or.inr rfl) x3) (p:=⟨b2,4,none⟩) (Or.inr rfl) x4) (p:=⟨b2,5,none⟩) (Or.inr rfl) x5,set_six h⟩
theorem cells6 {w:World} {b:Nat} {x0 x1 x2 x3 x4 x5:Value} {T:TypeId} (h:w.heap[b]?=some (.cells #[x0,x1,x2,x3,x4,x5] T)) :
  w.cell? ⟨b,0,none⟩=some x0∧w.cell? ⟨b,1,none⟩=some x1∧w.cell? ⟨b,2,none⟩=some x2∧w.cell? ⟨b,3,none⟩=some x3∧w.cell? ⟨b,4,none⟩=some x4∧w.cell? ⟨b,5,none⟩=some x5:=
 ⟨cell_of_row _ _ 0 _ _ _ h,cell_of_row _ _ 1 _ _ _ h,cell_of_row _ _ 2 _ _ _ h,cell_of_row _ _ 3 _ _ _ h,cell_of_row _ _ 4 _ _ _ h,cell_of_row _ _ 5 _ _ _ h⟩
end Go.Proofs.YtgbahnlgblahpaaGreat
namespace Go.Proofs.YtgbahnlgblahpaaGreat
open Go.RowKit
def intsV (l:List Int):List Value:=l.map (Value.int .i64)
def RowI (w:World) (G:Nat) (T:TypeId) (l:List Int):Prop:=w.heap[G]?=some (.cells (intsV l).toArray T)
section
variable {w:World} {G:Nat} {T:TypeId} {l:List Int}
theorem RowI.cell (h:RowI w G T l) {i:Nat} (hi:i<l.length):w.cell? ⟨G,i,none⟩=some (.int .i64 (at_ l (i:Int))):=by
 rw[cell_of_row _ _ i _ _ _ h,at_nat]
 simp[intsV,List.getElem?_eq_getElem hi]
theorem RowI.frozen (h:RowI w G T l) (i:Nat):w.frozen? ⟨G,i,none⟩=false:=frozen_of_row _ _ i _ _ h
theorem RowI.lt (h:RowI w G T l):G<w.heap.size:=(Array.getElem?_eq_some_iff.1 h).1
theorem RowI.set (h:RowI w G T l) (i:Nat) (v:Int):RowI (w.setCell ⟨G,i,none⟩ (.int .i64 v)) G T (l.set i v):=by
 have h1:=heap_setCell_same w G i _ _ (.int .i64 v) h
 unfold RowI
 rw[h1,List.setIfInBounds_toArray]
 unfold intsV
 rw[List.map_set]
theorem RowI.block {w':World} (h:RowI w G T l) (hb:w'.heap[G]?=w.heap[G]?):RowI w' G T l:=hb.trans h
theorem RowI.below {w':World} {B:Nat} (h:RowI w G T l) (hb:Below B w w') (hG:G<B):RowI w' G T l:=h.block (hb.block G hG)
end
theorem made_i (n:Nat):madeCells #[.int .i64 0] n=(intsV (List.replicate n 0)).toArray:=by
 apply Array.ext
 ·simp[madeCells,intsV]
 intro i h1 h2
 simp[madeCells,intsV,Nat.mod_one]
theorem mkL_run (w:World) (n:Nat) (hn:n≤2000000) :
  (Instr.makeSlice 31 (.int .i64 (n:Int)) (.int .i64 (n:Int))).run Tryz.prog w = .ok (.slice (some ⟨w.heap.size,0,none⟩) n n) (w.alloc (.cells (intsV (List.replicate n 0)).toArray 2)):=by
 obtain⟨i,hi,hz,hs,hb⟩:=info_parts (show (Tryz.prog.info? 2).map (fun i=>(i.zero,i.size,i.bytes))=some (some (.int .i64 0),1,8) by kernel_rfl)
 have hr:=run_make (P:=Tryz.prog) w 31 2 i _ Tryz.underlying31 hi hz .i64 .i64 n n (by omega) (Int.le_refl _) (by rw[hb];omega) (by omega)
 simp only[Int.toNat_natCast,hs,Nat.mul_one] at hr
 rw[←made_i]
 exact hr
theorem mkI_run (w:World) (n:Nat) (hn:n≤2000000) :
  (Instr.makeSlice 65 (.int .i64 (n:Int)) (.int .i64 (n:Int))).run Tryz.prog w = .ok (.slice (some ⟨w.heap.size,0,none⟩) n n) (w.alloc (.cells (intsV (List.replicate n 0)).toArray 3)):=by
 obtain⟨i,hi,hz,hs,hb⟩:=info_parts (show (Tryz.prog.info? 3).map (fun i=>(i.zero,i.size,i.bytes))=some (some (.int .i64 0),1,8) by kernel_rfl)
 have hr:=run_make (P:=Tryz.prog) w 65 3 i _ Tryz.underlying65 hi hz .i64 .i64 n n (by omega) (Int.le_refl _) (by rw[hb];omega) (by omega)
 simp only[Int.toNat_natCast,hs,Nat.mul_one] at hr
 rw[←made_i]
 exact hr
def natI (u:List Nat):List Int:=u.map (fun k:Nat=>(k:Int))
theorem natI_len (u:List Nat):(natI u).length=u.length:=by simp[natI]
theorem natI_at {u:List Nat} {v:Nat} (hv:v<u.length):at_ (natI u) (v:Int)=(upAt u v:Int):=by
 rw[at_nat]
 unfold natI upAt
 rw[List.getElem?_map,List.getElem?_eq_getElem hv];rfl
theorem natI_set (u:List Nat) (v y:Nat):(natI u).set v (y:Int)=natI (u.set v y):=by unfold natI;rw[List.map_set]
theorem RowI.own {w:World} {G:Nat} {T:TypeId} {l:List Int} (h:RowI w G T l) {base n:Nat} (hb:base≤G) (hn:l.length=n) (hm:n≤maxLen) :
  w.ownsRow base T 1 (.slice (some ⟨G,0,none⟩) n n) n (l.map (Value.int .i64)):=by
 subst hn
 refine⟨by simp,.inr ⟨G,l.length,_,rfl,hb,h,Nat.le_refl _,hm,by simp[intsV],?_⟩⟩
 simp[intsV,List.take_of_length_le]
def LPost (w:World) (code:Int) (l:List Int) (e:Ending) (w':World):Prop:=
 ∃A c',e = .returned (.tuple #[.slice A l.length c',.int .i64 code])∧w'.ownsRow w.heap.size 2 1 (.slice A l.length c') l.length (l.map (Value.int .i64))∧Below w.heap.size w w'
abbrev FarG (G:Nat) (z f:World):Prop:=FarS G G z f
def spV (d:List Sp):List Value:=d.flatMap fun x=>[.int .i64 x.1,.int .i64 x.2]
theorem spV_len (d:List Sp):(spV d).length=d.length*2:=by
 unfold spV
 induction d with
 | nil=>rfl
 | cons x d ih=>rw[List.flatMap_cons,List.length_append,ih,List.length_cons];simp;omega
theorem spV_get:∀{d:List Sp} {i:Nat} {m:Sp},d[i]?=some m→(spV d)[i*2]?=some (.int .i64 m.1)∧(spV d)[i*2+1]?=some (.int .i64 m.2):=by
 intro d
 induction d with
 | nil=>intro i m h;simp at h
 | cons x d ih=>
  intro i m h
  cases i with
  | zero=>simp at h;subst h;simp[spV]
  | succ i=>
   have:=ih (i:=i) (m:=m) (by simpa using h)
   unfold spV at this ⊢
   rw[List.flatMap_cons,show (i+1)*2=i*2+2 by omega]
   simpa using this
theorem spV_set:∀{d:List Sp} {i:Nat} (m:Sp),i<d.length→spV (d.set i m)=((spV d).set (i*2) (.int .i64 m.1)).set (i*2+1) (.int .i64 m.2):=by
 intro d
 induction d with
 | nil=>intro i m h;simp at h
 | cons x d ih=>
  intro i m h
  cases i with
  | zero=>simp[spV]
  | succ i=>
   have h2:=ih (i:=i) m (by simpa using h)
   unfold spV at h2 ⊢
   rw[List.set_cons_succ,List.flatMap_cons,h2,List.flatMap_cons]
   simp only[List.cons_append,List.nil_append,show (i+1)*2=i*2+2 by omega,Nat.add_right_comm,List.set_cons_succ]
structure HpM (P g n c:Nat) (d:List Sp) (w:World):Prop where
 len:d.length=n
 own:w.ownsRow 0 70 2 (.slice (some ⟨g,0,none⟩) n c) n (spV d)
 ptr:w.heap[P]?=some (.cells #[.slice (some ⟨g,0,none⟩) n c] 72)
section
variable {w w':World} {P g n c:Nat} {d:List Sp}
theorem HpM.ne (h:HpM P g n c d w):g≠P:=fun e=>by
 subst e
 rcases h.own.2 with ⟨h0,_⟩ | ⟨g',cap,cur,hv,_,hc,_⟩
 ·cases h0
 injection hv with h1
 injection h1 with h1
 injection h1 with h1
 subst h1
 rw[h.ptr] at hc
 injection hc with hc
 injection hc with _ h2
 exact absurd h2 (by decide)
theorem HpM.glt (h:HpM P g n c d w):g<w.heap.size:=(h.own.lt g rfl).2
theorem HpM.plt (h:HpM P g n c d w):P<w.heap.size:=lt_of_block h.ptr
theorem HpM.cap (h:HpM P g n c d w):n≤c:=own_cap h.own
theorem HpM.drew (h:HpM P g n c d w):HpM P g n c d w.drew:=⟨h.len,h.own.drew,h.ptr⟩
theorem HpM.keep (h:HpM P g n c d w) (hg:w'.heap[g]?=w.heap[g]?) (hp:w'.heap[P]?=w.heap[P]?):HpM P g n c d w':=by
 refine⟨h.len,⟨h.own.1,?_⟩,hp.trans h.ptr⟩
 rcases h.own.2 with h0 | ⟨g',cap,cur,hv,hb,hc,hr⟩
 ·exact .inl h0
 have e:g'=g:=by
  injection hv with h1
  injection h1 with h1
  injection h1 with h1
  exact h1.symm
 subst e
 exact .inr ⟨g',cap,cur,hv,hb,hg.trans hc,hr⟩
theorem HpM.below (h:HpM P g n c d w) (hb:Below w.heap.size w w'):HpM P g n c d w':=h.keep (hb.block g h.glt) (hb.block P h.plt)
theorem HpM.frozen (h:HpM P g n c d w) (j:Nat):w.frozen? ⟨g,j,none⟩=false:=h.own.frozenAt j
theorem HpM.get (h:HpM P g n c d w) {i:Nat} {m:Sp} (hm:d[i]?=some m):w.cell? ⟨g,i*2,none⟩=some (.int .i64 m.1)∧w.cell? ⟨g,i*2+1,none⟩=some (.int .i64 m.2):=by
 have hi:=(List.getElem?_eq_some_iff.1 hm).1
 have hl:=h.len
 exact⟨(h.own.cellAt (i*2) (by omega)).trans (spV_get hm).1,(h.own.cellAt (i*2+1) (by omega)).trans (spV_get hm).2⟩
theorem HpM.set (h:HpM P g n c d w) {i:Nat} (hi:i<n) (m:Sp):HpM P g n c (d.set i m) ((w.setCell ⟨g,i*2,none⟩ (.int .i64 m.1)).setCell ⟨g,i*2+1,none⟩ (.int .i64 m.2)):=by
 have hne:P≠g:=h.ne.symm
 refine⟨by rw[List.length_set];exact h.len,?_,?_⟩
 ·rw[spV_set m (by rw[h.len];exact hi)]
  exact ((h.own.stored (i*2) (.int .i64 m.1)).1.stored (i*2+1) (.int .i64 m.2)).1
 exact ((Below.heap_setCell _ ⟨g,i*2+1,none⟩ _ P hne).trans (Below.heap_setCell _ ⟨g,i*2,none⟩ _ P hne)).trans h.ptr
end
structure KH (P g:Nat) (v w:World):Prop where
 os:w.os=v.os
 tape:w.tape=v.tape
 output:w.output=v.output
 size:v.heap.size≤w.heap.size
 blk:∀b,b<v.heap.size→b≠P→b≠g→w.heap[b]?=v.heap[b]?
section
variable {P g B:Nat} {v w w':World}
theorem KH.refl (P g:Nat) (v:World):KH P g v v:=⟨rfl,rfl,rfl,Nat.le_refl _,fun _ _ _ _=>rfl⟩
theorem KH.drew (h:KH P g v w):KH P g v w.drew:=⟨h.os,h.tape,h.output,h.size,h.blk⟩
theorem KH.trans (h:KH P g v w) (h':KH P g w w'):KH P g v w':=⟨h'.os.trans h.os,h'.tape.trans h.tape,h'.output.trans h.output,Nat.le_trans h.size h'.size,fun b hb h1 h2=>(h'.blk b (Nat.lt_of_lt_of_le hb h.size) h1 h2).trans (h.blk b hb h1 h2)⟩
theorem KH.below (h:KH P g v w) (hb:Below B w w') (hB:v.heap.size≤B):KH P g v w':=⟨hb.os.trans h.os,hb.tape.trans h.tape,hb.output.trans h.output,Nat.le_trans h.size hb.size,fun b hl h1 h2=>(hb.block b (Nat.lt_of_lt_of_le hl hB)).trans (h.blk b hl h1 h2)⟩
theorem KH.of_below (hb:Below v.heap.size v w):KH P g v w:=(KH.refl P g v).below hb (Nat.le_refl _)
theorem KH.setCell (h:KH P g v w) {p:Addr} (hp:p.block=P∨p.block=g) (u:Value):KH P g v (w.setCell p u):=by
 have hb:=(Below.refl 0 w).setCell (Nat.zero_le p.block) u
 exact⟨hb.os.trans h.os,hb.tape.trans h.tape,hb.output.trans h.output,by rw[World.size_setCell];exact h.size,fun b hl h1 h2=>(Below.heap_setCell _ _ _ b (by rcases hp with e | e <;> rw[e] <;> assumption)).trans (h.blk b hl h1 h2)⟩
theorem KH.grown (h:KH P g v w) (hg:w.grownBy w' (some g)):KH P g v w':=⟨hg.os.trans h.os,hg.tape.trans h.tape,hg.output.trans h.output,Nat.le_trans h.size hg.size,fun b hl h1 h2=>(hg.block b (Nat.lt_of_lt_of_le hl h.size) (fun e=>by injection e with e;exact h2 e)).trans (h.blk b hl h1 h2)⟩
theorem KH.toBelow (h:KH P g v w) (hP:B≤P) (hg:B≤g) (hv:B≤v.heap.size):Below B v w:=⟨h.os,h.tape,h.output,h.size,fun b hb=>h.blk b (by omega) (by omega) (by omega)⟩
theorem KH.set2 (h:KH P g v w) (i j:Nat) (a b:Value):KH P g v ((w.setCell ⟨g,i,none⟩ a).setCell ⟨g,j,none⟩ b):=(h.setCell (p:=⟨g,i,none⟩) (.inr rfl) _).setCell (p:=⟨g,j,none⟩) (.inr rfl) _
end
theorem hlen_any (w:World) (A:Option Addr) (n c:Nat):Calls Tryz.prog 35 #[.slice A n c] w fun e w'=>e = .returned (.int .i64 (n:Int))∧w'=w:=by
 go_enter Tryz.func35,Tryz.ntmps35
 go_wp2
 go_ret
 exact⟨rfl,rfl⟩
theorem hless_any (w:World) (P g n c:Nat) (d:List Sp) (i j:Nat) (x y:Sp) (hM:HpM P g n c d w) (hx:d[i]?=some x) (hy:d[j]?=some y) :
  Calls Tryz.prog 135 #[.slice (some ⟨g,0,none⟩) n c,.int .i64 (i:Int),.int .i64 (j:Int)] w fun e w'=>e = .returned (.bool (decide (x.2<y.2)))∧w'=w.drew:=by
 obtain⟨x0,x1⟩:=hM.get hx
 obtain⟨y0,y1⟩:=hM.get hy
 have hlen:=hM.len
 have hi:=(List.getElem?_eq_some_iff.1 hx).1
 have hj:=(List.getElem?_eq_some_iff.1 hy).1
 have hi0:(0:Int)≤(i:Int):=by omega
 have hi1:(i:Int)<(n:Int):=by omega
 have hj0:(0:Int)≤(j:Int):=by omega
 have hj1:(j:Int)<(n:Int):=by omega
 have hg:=hM.glt
 clear hM hx hy hlen hi hj
 go_enter Tryz.func135,Tryz.ntmps135
 go_upto_region 1 with fail
 refine wp_region_held_drew (S:=Kept w) (by kernel_rfl) (Kept.drew w) (fun hS0=>?_)
 refine tka 0 7 ?_
 refine tka 1 8 ?_
 refine tka 2 9 ?_
 refine tka 3 10 ?_
 refine tka 4 11 ?_
 refine tka 5 12 ?_
 refine tka 6 13 ?_
 refine tka 7 14 ?_
 refine tka 8 15 ?_
 refine tka 9 16 ?_
 refine tka 10 17 ?_
 refine tka 11 6 ?_
 refine wpAnyH_done (by kernel_rfl) ?_ _
 clear hS0
 go_wp2
 go_ret
 exact⟨rfl,rfl⟩
theorem hswap_any (w:World) (P g n c:Nat) (d:List Sp) (i j:Nat) (x y:Sp) (hM:HpM P g n c d w) (hx:d[i]?=some x) (hy:d[j]?=some y) :
  Calls Tryz.prog 138 #[.slice (some ⟨g,0,none⟩) n c,.int .i64 (i:Int),.int .i64 (j:Int)] w fun e w'=>e = .returned (.tuple #[])∧HpM P g n c ((d.set i y).set j x) w'∧KH P g w w'∧w'.heap.size=w.heap.size:=by
 have HS:=hide hM
 have hlen:=hM.len
 have hi:=(List.getElem?_eq_some_iff.1 hx).1
 have hj:=(List.getElem?_eq_some_iff.1 hy).1
 have hi0:(0:Int)≤(i:Int):=by omega
 have hi1:(i:Int)<(n:Int):=by omega
 have hj0:(0:Int)≤(j:Int):=by omega
 have hj1:(j:Int)<(n:Int):=by omega
 obtain⟨cx0,cx1⟩:=HS.out.get hx
 have cxf0:=HS.out.frozen (i*2)
 have cxf1:=HS.out.frozen (i*2+1)
 obtain⟨cy0,cy1⟩:=HS.out.get hy
 have cyf0:=HS.out.frozen (j*2)
 have cyf1:=HS.out.frozen (j*2+1)
 have hg:=hM.glt
 have HX:=hide hx
 have HY:=hide hy
 clear hM hx hy
 go_enter Tryz.func138,Tryz.ntmps138
 go_upto_region 0 with fail
 refine wpL_region (S:=Kept w) [13,15] (by kernel_rfl) (Kept.drew w) (fun hS0=>?_)
 refine tla 0 6 ?_
 refine tla 1 7 ?_
 refine twa 2 8 ?_
 refine twa 3 9 ?_
 refine tla 4 10 ?_
 refine tla 5 11 ?_
 refine tla 6 12 ?_
 refine tla 7 13 ?_
 refine twa 8 14 ?_
 refine twa 9 15 ?_
 refine twa 10 16 ?_
 refine tla 11 17 ?_
 refine tla 12 18 ?_
 refine xl 13 fun K hK=>?_
 go_wp2_with fail
 refine hK.out _ _ ?_
 clear hK K
 try simp only[zqd,zqe,zqf]
 have HSa:=hide (HpM.set HS.out (i:=i) (by omega) y).drew
 obtain⟨ya,hya⟩:∃z,World.drew ((w.setCell ⟨g,i*2,none⟩ (.int .i64 y.1)).setCell ⟨g,i*2+1,none⟩ (.int .i64 y.2))=z:=⟨_,rfl⟩
 rw[hya] at HSa
 first | rw[hya] | rw[show _=ya from hya]
 have HYa:=hide hya
 clear hya
 have ga0:=HSa.out.frozen (j*2)
 have ga1:=HSa.out.frozen (j*2+1)
 obtain⟨mj,hmj⟩:∃m,(d.set i y)[j]?=some m:=⟨_,List.getElem?_eq_getElem (by rw[List.length_set];omega)⟩
 obtain⟨gb0,gb1⟩:=HSa.out.get hmj
 clear hmj
 refine twa 14 19 ?_
 refine xl 15 fun K hK=>?_
 go_wp2_with fail
 refine hK.out _ _ ?_
 clear hK K
 try simp only[zqd,zqe,zqf]
 refine wpAnyL_done (by kernel_rfl) ?_ _
 have HSb:=hide (HpM.set HSa.out (i:=j) (by omega) x)
 have HKb:=hide (show KH P g w ((ya.setCell ⟨g,j*2,none⟩ (.int .i64 x.1)).setCell ⟨g,j*2+1,none⟩ (.int .i64 x.2)) from KH.set2 (by rw[←HYa.out];exact (KH.set2 (KH.refl _ _ _) _ _ _ _).drew) _ _ _ _)
 have HZb:Hid (((ya.setCell ⟨g,j*2,none⟩ (.int .i64 x.1)).setCell ⟨g,j*2+1,none⟩ (.int .i64 x.2)).heap.size=w.heap.size):=hide (by rw[World.size_setCell,World.size_setCell,←HYa.out];show ((w.setCell ⟨g,i*2,none⟩ (.int .i64 y.1)).setCell ⟨g,i*2+1,none⟩ (.int .i64 y.2)).heap.size=_;rw[World.size_setCell,World.size_setCell])
 clear hS0 HSa HYa ga0 ga1 gb0 gb1 cx0 cx1 cy0 cy1 cxf0 cxf1 cyf0 cyf1
 go_wp2
 go_end0
 exact⟨rfl,HSb.out,HKb.out,HZb.out⟩
theorem wrap_ok (xt:TypeId) (a:Addr) (s n:String) (w:World):(Builtin.ssaWrapNilChk_ #[xt] xt #[.pointer (some a),strVal s,strVal n]).run Tryz.prog w = .ok (.pointer (some a)) w:=rfl
theorem meth_val {w:World} {P f:Nat} {v:Value} {name:String} (N:Nat) (hi:(Tryz.prog.info? 68).map (fun i=>(i.methods.find? (·.name == name)).map (fun m=>(m.path.isEmpty,m.func)))=some (some (true,some (f,false)))) (hp:w.cell? ⟨P,0,none⟩=some v) :
  (method (N+1) 68 (.pointer (some ⟨P,0,none⟩)) name).run Tryz.prog w = .ok (f,v) w:=by
 obtain⟨i,hi,hm⟩:∃i,Tryz.prog.info? 68=some i∧(i.methods.find? (·.name == name)).map (fun m=>(m.path.isEmpty,m.func))=some (true,some (f,false)):=by
  cases h:Tryz.prog.info? 68 with
  | none=>rw[h] at hi;simp at hi
  | some i=>rw[h] at hi;exact⟨i,rfl,by simpa using hi⟩
 obtain⟨m,hm,hmp⟩:=Option.map_eq_some_iff.1 hm
 injection hmp with h1 h2
 have h1':m.path=#[]:=by simpa using h1
 unfold method
 simp[go_sem,typeInfo,hi,hm,h1',h2,follow,receiverAt,Place.get,wrap_ok,asAddr,hp]
theorem meth_ptr {w:World} {p:Option Addr} {f:Nat} {name:String} (N:Nat) (hi:(Tryz.prog.info? 68).map (fun i=>(i.methods.find? (·.name == name)).map (fun m=>(m.path.isEmpty,m.func)))=some (some (true,some (f,true)))):(method (N+1) 68 (.pointer p) name).run Tryz.prog w = .ok (f,.pointer p) w:=by
 obtain⟨i,hi,hm⟩:∃i,Tryz.prog.info? 68=some i∧(i.methods.find? (·.name == name)).map (fun m=>(m.path.isEmpty,m.func))=some (true,some (f,true)):=by
  cases h:Tryz.prog.info? 68 with
  | none=>rw[h] at hi;simp at hi
  | some i=>rw[h] at hi;exact⟨i,rfl,by simpa using hi⟩
 obtain⟨m,hm,hmp⟩:=Option.map_eq_some_iff.1 hm
 injection hmp with h1 h2
 have h1':m.path=#[]:=by simpa using h1
 unfold method
 simp[go_sem,typeInfo,hi,hm,h1',h2,follow,receiverAt,Place.get]
theorem HpM.pc {w:World} {P g n c:Nat} {d:List Sp} (h:HpM P g n c d w):w.cell? ⟨P,0,none⟩=some (.slice (some ⟨g,0,none⟩) n c):=cell_of_row _ _ 0 _ _ _ h.ptr
theorem HpM.mLess {w:World} {P g n c:Nat} {d:List Sp} (h:HpM P g n c d w):(method 316 68 (.pointer (some ⟨P,0,none⟩)) "Less").run Tryz.prog w = .ok (135,.slice (some ⟨g,0,none⟩) n c) w:=meth_val 315 (by kernel_rfl) h.pc
theorem HpM.mSwap {w:World} {P g n c:Nat} {d:List Sp} (h:HpM P g n c d w):(method 316 68 (.pointer (some ⟨P,0,none⟩)) "Swap").run Tryz.prog w = .ok (138,.slice (some ⟨g,0,none⟩) n c) w:=meth_val 315 (by kernel_rfl) h.pc
theorem HpM.mLen {w:World} {P g n c:Nat} {d:List Sp} (h:HpM P g n c d w):(method 316 68 (.pointer (some ⟨P,0,none⟩)) "Len").run Tryz.prog w = .ok (35,.slice (some ⟨g,0,none⟩) n c) w:=meth_val 315 (by kernel_rfl) h.pc
theorem mPush (w:World) (P:Nat):(method 316 68 (.pointer (some ⟨P,0,none⟩)) "Push").run Tryz.prog w = .ok (137,.pointer (some ⟨P,0,none⟩)) w:=meth_ptr 315 (by kernel_rfl)
theorem mPop (w:World) (P:Nat):(method 316 68 (.pointer (some ⟨P,0,none⟩)) "Pop").run Tryz.prog w = .ok (136,.pointer (some ⟨P,0,none⟩)) w:=meth_ptr 315 (by kernel_rfl)
theorem get_app {a r:List Sp} {i:Nat} {x:Sp} (h:a[i]?=some x):(a ++ r)[i]?=some x:=by rw[List.getElem?_append_left (List.getElem?_eq_some_iff.1 h).1];exact h
theorem set_app {a r:List Sp} {i:Nat} {x:Sp} (h:i<a.length):(a ++ r).set i x=a.set i x ++ r:=List.set_append_left _ _ h
def UpPost (P g n c:Nat) (d:List Sp) (w:World) (e:Ending) (w':World):Prop:=e = .returned (.tuple #[])∧∃d',HpM P g n c d' w'∧d'.Perm d∧HeapO d'∧KH P g w w'
theorem up_any (w:World) (P g n c:Nat) (d:List Sp) (j:Nat) (hM:HpM P g n c d w) (hj:j<n) (hn:n≤1000000) (hU:UpInv d j) :
  Calls Tryz.prog 58 #[.iface 68 (.pointer (some ⟨P,0,none⟩)),.int .i64 (j:Int)] w (UpPost P g n c d w):=by
 have HM0:=hide hM
 have HU0:=hide hU
 clear hM hU
 go_enter Tryz.func58,Tryz.ntmps58
 go_wp2_with fail
 go_loopw [1] (fun v1 wr=>∃(j:Nat) (d1:List Sp),j<n∧v1 = .int .i64 (j:Int)∧Hid (HpM P g n c d1 wr)∧Hid (UpInv d1 j)∧Hid (d1.Perm d)∧Hid (KH P g w wr)) (fun v1 _=>(intOf v1).toNat)
 case atStart=>exact⟨j,d,hj,rfl,HM0,HU0,hide (List.Perm.refl _),hide (KH.refl _ _ _)⟩
 case round=>
  clear HM0 HU0 hj
  obtain⟨j,d1,hj,rfl,HM,HU,HPm,HK⟩:=hrel
  rcases j with _ | k
  ·have HFin:Hid (UpPost P g n c d w (.returned (.tuple #[])) wr):=hide ⟨rfl,d1,HM.out,HPm.out,HU.out.stop (.inl rfl),HK.out⟩
   clear HM HU HPm HK
   go_wp2
   go_end0
   exact HFin.out
  have e1:IntKind.i64.wrap (((k+1:Nat):Int)-1)=(k:Int):=by rw[show ((k+1:Nat):Int)-1=(k:Int) by omega];exact IntWalk.i64_in _ (by omega)
  obtain⟨i,hi⟩:∃i,k / 2=i:=⟨_,rfl⟩
  obtain⟨J,hJ⟩:∃J,k+1=J:=⟨_,rfl⟩
  rw[hJ] at hj e1 HU ⊢
  have hi2:(k:Int) / 2=(i:Int):=by omega
  have hiJ:i=(J-1) / 2:=by omega
  have hiJ2:i<J:=by omega
  have HIJ:=hide hiJ
  have hne:¬(i:Int)=(J:Int):=by omega
  have hlen:=HM.out.len
  obtain⟨x,hx⟩:∃x,d1[i]?=some x:=⟨_,List.getElem?_eq_getElem (by omega)⟩
  obtain⟨y,hy⟩:∃y,d1[J]?=some y:=⟨_,List.getElem?_eq_getElem (by omega)⟩
  have HX:=hide hx
  have HY:=hide hy
  have hml:=HM.out.mLess
  clear hi hJ hiJ hlen hx hy
  go_wp2_with fail
  refine (hless_any wr P g n c d1 J i y x HM.out HY.out HX.out).mono ?_
  rintro e y1 ⟨rfl,rfl⟩
  clear hml
  by_cases hlt:y.2<x.2
  ·have HMd:=hide HM.out.drew
   have hms:=HMd.out.mSwap
   have HN:=hide (HU.out.step (by omega) HIJ.out HX.out HY.out hlt)
   clear HU
   go_wp2_with fail
   refine (hswap_any wr.drew P g n c d1 i J x y HMd.out HX.out HY.out).mono ?_
   rintro e y2 ⟨rfl,hm2,hk2,hz2⟩
   have HM2:=hide hm2
   have HK2:=hide ((HK.out.drew).trans hk2)
   have HP2:=hide ((swap_perm HX.out HY.out).trans HPm.out)
   clear hm2 hk2 hz2 hms HM HMd HK HPm HX HY
   go_wp2
   go_roundw
   case rel=>exact⟨i,(d1.set i y).set J x,by omega,by go_num,HM2,HN,HP2,HK2⟩
   case measure=>simp[intOf];omega
  have HFin:Hid (UpPost P g n c d w (.returned (.tuple #[])) wr.drew):=hide ⟨rfl,d1,HM.out.drew,HPm.out,HU.out.stop (.inr (by rw[←HIJ.out,key_get HX.out,key_get HY.out];exact hlt)),HK.out.drew⟩
  rw[show decide (y.2<x.2)=false from decide_eq_false hlt]
  clear HM HU HPm HK HX HY
  go_wp2
  go_end0
  exact HFin.out
def DownPost (P g n c:Nat) (a r:List Sp) (w:World) (e:Ending) (w':World):Prop:=(∃b,e = .returned (.bool b))∧∃a',HpM P g n c (a' ++ r) w'∧a'.Perm a∧HeapO a'∧KH P g w w'
theorem down_any (w:World) (P g n c m:Nat) (a r:List Sp) (hM:HpM P g n c (a ++ r) w) (hm:a.length=m) (hn:n≤1000000) (hU:DownInv a 0) :
  Calls Tryz.prog 54 #[.iface 68 (.pointer (some ⟨P,0,none⟩)),.int .i64 0,.int .i64 (m:Int)] w (DownPost P g n c a r w):=by
 have hmn:m≤n:=by have:=hM.len;rw[List.length_append] at this;omega
 have HM0:=hide hM
 have HU0:=hide hU
 have Hm:=hide hm
 clear hM hU hm
 go_enter Tryz.func54,Tryz.ntmps54
 go_wp2_with fail
 go_loopw [7] (fun v7 wr=>∃(i:Nat) (a1:List Sp),i≤m∧v7 = .int .i64 (i:Int)∧Hid (HpM P g n c (a1 ++ r) wr)∧Hid (DownInv a1 i)∧Hid (a1.Perm a)∧Hid (KH P g w wr)) (fun v7 _=>m-(intOf v7).toNat)
 case atStart=>exact⟨0,a,by omega,rfl,HM0,HU0,hide (List.Perm.refl _),hide (KH.refl _ _ _)⟩
 case round=>
  clear HM0 HU0
  obtain⟨i,a1,hi,rfl,HM,HU,HPm,HK⟩:=hrel
  have HL1:Hid (a1.length=m):=hide (by rw[HPm.out.length_eq];exact Hm.out)
  obtain⟨J,hJ⟩:∃J,2*i+1=J:=⟨_,rfl⟩
  have e0:2*(i:Int)+1=(J:Int):=by omega
  have e1:IntKind.i64.wrap (2*(i:Int))=2*(i:Int):=IntWalk.i64_in _ (by omega)
  have e2:IntKind.i64.wrap (2*(i:Int)+1)=(J:Int):=by rw[e0];exact IntWalk.i64_in _ (by omega)
  have e3:IntKind.i64.wrap (J:Int)=(J:Int):=IntWalk.i64_in _ (by omega)
  have HJ:=hide hJ
  have hiJ:i<J:=by omega
  clear hJ
  by_cases hJm:J<m
  ·obtain⟨x,hx⟩:∃x,a1[i]?=some x:=⟨_,List.getElem?_eq_getElem (by rw[HL1.out];omega)⟩
   obtain⟨y,hy⟩:∃y,a1[J]?=some y:=⟨_,List.getElem?_eq_getElem (by rw[HL1.out];omega)⟩
   have HX:=hide hx
   have HY:=hide hy
   clear hx hy
   have hJ1:¬(m:Int)≤(J:Int):=by omega
   have hJ0:¬(J:Int)<0:=by omega
   obtain⟨K2,hK2⟩:∃q,J+1=q:=⟨_,rfl⟩
   have e4:IntKind.i64.wrap ((J:Int)+1)=(K2:Int):=by rw[show (J:Int)+1=(K2:Int) by omega];exact IntWalk.i64_in _ (by omega)
   have e5:(J:Int)+1=(K2:Int):=by omega
   have HK2e:=hide hK2
   have hJK:J<K2:=by omega
   clear hK2
   by_cases hKm:K2<m
   ·obtain⟨z,hz⟩:∃z,a1[K2]?=some z:=⟨_,List.getElem?_eq_getElem (by rw[HL1.out];omega)⟩
    have HZ:=hide hz
    clear hz
    have hKm1:(K2:Int)<(m:Int):=by omega
    have hml:=HM.out.mLess
    go_wp2_with fail
    refine (hless_any wr P g n c (a1 ++ r) K2 J z y HM.out (get_app HZ.out) (get_app HY.out)).mono ?_
    rintro e z0 ⟨rfl,rfl⟩
    clear hml
    have HMe:=hide HM.out.drew
    have HKe:=hide HK.out.drew
    clear HM HK
    by_cases hzy:z.2<y.2
    ·have HMin:Hid (∀k,0<k→k<a1.length→(k-1) / 2=i→key a1 K2≤key a1 k):=hide (fun k h1 h2 h3=>by
      have h4:k=J∨k=K2:=by have:=HJ.out;have:=HK2e.out;omega
      have k1:=key_get HY.out
      have k2:=key_get HZ.out
      rcases h4 with rfl | rfl <;> omega)
     have hml2:=HMe.out.mLess
     have hij:i<K2:=by omega
     have HX9:=hide (get_app HX.out (r:=r))
     have HY9:=hide (get_app HZ.out (r:=r))
     go_wp2_with fail
     refine (hless_any wr.drew P g n c (a1 ++ r) K2 i z x HMe.out HY9.out HX9.out).mono ?_
     rintro e z1 ⟨rfl,rfl⟩
     clear hml2
     by_cases hlt:z.2<x.2
     ·have HMd:=hide HMe.out.drew
      have hms:=HMd.out.mSwap
      have HN:=hide (HU.out.step (j:=K2) (by omega) (by have:=HJ.out;omega) HX.out HZ.out hlt HMin.out)
      clear HU
      go_wp2_with fail
      refine (hswap_any wr.drew.drew P g n c (a1 ++ r) i K2 x z HMd.out HX9.out HY9.out).mono ?_
      rintro e z2 ⟨rfl,hm2,hk2,hz2⟩
      have HM2:Hid (HpM P g n c (((a1.set i z).set K2 x) ++ r) z2):=hide (by rw[set_app (by have:=HL1.out;omega),set_app (by rw[List.length_set];have:=HL1.out;omega)] at hm2;exact hm2)
      have HK2:=hide ((HKe.out.drew).trans hk2)
      have HP2:=hide ((swap_perm HX.out HZ.out).trans HPm.out)
      clear hm2 hk2 hz2 hms HMd HPm HX HX9 HY9 HZ
      go_wp2
      go_roundw
      case rel=>exact⟨K2,(a1.set i z).set K2 x,by omega,by go_num,HM2,HN,HP2,HK2⟩
      case measure=>simp[intOf];omega
     have HFin:Hid (∀b,DownPost P g n c a r w (.returned (.bool b)) wr.drew.drew):=hide (fun b=>⟨⟨b,rfl⟩,a1,HMe.out.drew,HPm.out,HU.out.stop (fun k h1 h2 h3=>Int.le_trans (by rw[key_get HX.out,key_get HZ.out];omega) (HMin.out k h1 h2 h3)),HKe.out.drew⟩)
     rw[show decide (z.2<x.2)=false from decide_eq_false hlt]
     clear HU HPm HX HX9 HY9 HZ
     go_wp2
     go_ret
     exact HFin.out _
    rw[show decide (z.2<y.2)=false from decide_eq_false hzy]
    have HMin:Hid (∀k,0<k→k<a1.length→(k-1) / 2=i→key a1 J≤key a1 k):=hide (fun k h1 h2 h3=>by
     have h4:k=J∨k=K2:=by have:=HJ.out;have:=HK2e.out;omega
     have k1:=key_get HY.out
     have k2:=key_get HZ.out
     rcases h4 with rfl | rfl <;> omega)
    have hml2:=HMe.out.mLess
    have hij:i<J:=by omega
    have HX9:=hide (get_app HX.out (r:=r))
    have HY9:=hide (get_app HY.out (r:=r))
    go_wp2_with fail
    refine (hless_any wr.drew P g n c (a1 ++ r) J i y x HMe.out HY9.out HX9.out).mono ?_
    rintro e z1 ⟨rfl,rfl⟩
    clear hml2
    by_cases hlt:y.2<x.2
    ·have HMd:=hide HMe.out.drew
     have hms:=HMd.out.mSwap
     have HN:=hide (HU.out.step (j:=J) (by omega) (by have:=HJ.out;omega) HX.out HY.out hlt HMin.out)
     clear HU
     go_wp2_with fail
     refine (hswap_any wr.drew.drew P g n c (a1 ++ r) i J x y HMd.out HX9.out HY9.out).mono ?_
     rintro e z2 ⟨rfl,hm2,hk2,hz2⟩
     have HM2:Hid (HpM P g n c (((a1.set i y).set J x) ++ r) z2):=hide (by rw[set_app (by have:=HL1.out;omega),set_app (by rw[List.length_set];have:=HL1.out;omega)] at hm2;exact hm2)
     have HK2:=hide ((HKe.out.drew).trans hk2)
     have HP2:=hide ((swap_perm HX.out HY.out).trans HPm.out)
     clear hm2 hk2 hz2 hms HMd HPm HX HX9 HY9 HY
     go_wp2
     go_roundw
     case rel=>exact⟨J,(a1.set i y).set J x,by omega,by go_num,HM2,HN,HP2,HK2⟩
     case measure=>simp[intOf];omega
    have HFin:Hid (∀b,DownPost P g n c a r w (.returned (.bool b)) wr.drew.drew):=hide (fun b=>⟨⟨b,rfl⟩,a1,HMe.out.drew,HPm.out,HU.out.stop (fun k h1 h2 h3=>Int.le_trans (by rw[key_get HX.out,key_get HY.out];omega) (HMin.out k h1 h2 h3)),HKe.out.drew⟩)
    rw[show decide (y.2<x.2)=false from decide_eq_false hlt]
    clear HU HPm HX HX9 HY9 HY
    go_wp2
    go_ret
    exact HFin.out _
   have hKm1:¬(K2:Int)<(m:Int):=by omega
   have HMin:Hid (∀k,0<k→k<a1.length→(k-1) / 2=i→key a1 J≤key a1 k):=hide (fun k h1 h2 h3=>by
    have h4:k=J:=by have:=HJ.out;have:=HK2e.out;have:=HL1.out;omega
    rw[h4];exact Int.le_refl _)
   have hml2:=HM.out.mLess
   have hij:i<J:=by omega
   have HX9:=hide (get_app HX.out (r:=r))
   have HY9:=hide (get_app HY.out (r:=r))
   go_wp2_with fail
   refine (hless_any wr P g n c (a1 ++ r) J i y x HM.out HY9.out HX9.out).mono ?_
   rintro e z1 ⟨rfl,rfl⟩
   clear hml2
   by_cases hlt:y.2<x.2
   ·have HMd:=hide HM.out.drew
    have hms:=HMd.out.mSwap
    have HN:=hide (HU.out.step (j:=J) (by omega) (by have:=HJ.out;omega) HX.out HY.out hlt HMin.out)
    clear HU
    go_wp2_with fail
    refine (hswap_any wr.drew P g n c (a1 ++ r) i J x y HMd.out HX9.out HY9.out).mono ?_
    rintro e z2 ⟨rfl,hm2,hk2,hz2⟩
    have HM2:Hid (HpM P g n c (((a1.set i y).set J x) ++ r) z2):=hide (by rw[set_app (by have:=HL1.out;omega),set_app (by rw[List.length_set];have:=HL1.out;omega)] at hm2;exact hm2)
    have HK2:=hide ((HK.out.drew).trans hk2)
    have HP2:=hide ((swap_perm HX.out HY.out).trans HPm.out)
    clear hm2 hk2 hz2 hms HMd HPm HX HX9 HY9 HY
    go_wp2
    go_roundw
    case rel=>exact⟨J,(a1.set i y).set J x,by omega,by go_num,HM2,HN,HP2,HK2⟩
    case measure=>simp[intOf];omega
   have HFin:Hid (∀b,DownPost P g n c a r w (.returned (.bool b)) wr.drew):=hide (fun b=>⟨⟨b,rfl⟩,a1,HM.out.drew,HPm.out,HU.out.stop (fun k h1 h2 h3=>Int.le_trans (by rw[key_get HX.out,key_get HY.out];omega) (HMin.out k h1 h2 h3)),HK.out.drew⟩)
   rw[show decide (y.2<x.2)=false from decide_eq_false hlt]
   clear HU HPm HX HX9 HY9 HY
   go_wp2
   go_ret
   exact HFin.out _
  have HFin:Hid (∀b,DownPost P g n c a r w (.returned (.bool b)) wr):=hide (fun b=>⟨⟨b,rfl⟩,a1,HM.out,HPm.out,HU.out.stop (fun k h1 h2 h3=>absurd (show J<m by have:=HL1.out;have:=HJ.out;omega) hJm),HK.out⟩)
  have hJ2:(m:Int)≤(J:Int):=by omega
  clear HM HU HPm HK
  go_wp2
  go_ret
  exact HFin.out _
theorem own_take {w:World} {base:Nat} {e:TypeId} {size n c g k:Nat} {xs:List Value} (h:w.ownsRow base e size (.slice (some ⟨g,0,none⟩) n c) n xs) (hk:k≤n):w.ownsRow base e size (.slice (some ⟨g,0,none⟩) k c) k (xs.take (k*size)):=by
 have hks:k*size≤n*size:=Nat.mul_le_mul_right _ hk
 refine⟨by rw[List.length_take,h.1];omega,?_⟩
 rcases h.2 with ⟨h0,_⟩ | ⟨g',cap,cur,hv,hb,hc,hn,hm,hs,ht⟩
 ·cases h0
 injection hv with h1 _ h3
 subst h3
 injection h1 with h1
 injection h1 with h1
 subst h1
 exact .inr ⟨g,c,cur,rfl,hb,hc,by omega,hm,hs,by rw[←ht,List.take_take,Nat.min_eq_left hks]⟩
theorem grown_at {w w':World} {o:Obj} {q:Option Nat} {b:Nat} {x:Obj} (h:w.heap[b]?=some x) (hg:(w.drew.alloc o).grownBy w' q) (hne:some b≠q) (hb:b<w.heap.size):w'.heap[b]?=some x:=
 (hg.block b (by simp;omega) (fun e=>hne (by first | exact e | exact e.symm))).trans ((Below.heap_alloc w.drew o b (by simpa using hb)).trans h)
theorem own_block_ne {w w':World} {base D:Nat} {e:TypeId} {size n c g:Nat} {xs:List Value} (h:w.ownsRow base e size (.slice (some ⟨g,0,none⟩) n c) n xs) (hf:FarG D w w') (hD:g≠D):w'.ownsRow base e size (.slice (some ⟨g,0,none⟩) n c) n xs:=by
 refine⟨h.1,?_⟩
 rcases h.2 with h0 | ⟨g',cap,cur,hv,hg,hc,hr⟩
 ·exact .inl h0
 have e9:g=g':=by injection hv with h1;injection h1 with h1;injection h1
 subst e9
 exact .inr ⟨g,cap,cur,hv,hg,(hf.block g hD hD).trans hc,hr⟩
theorem spot_as (w:World) (x:Sp):(Instr.typeAssert (.iface 70 (.agg #[.int .i64 x.1,.int .i64 x.2])) 20 70 false).run Tryz.prog w = .ok (.agg #[.int .i64 x.1,.int .i64 x.2]) w:=by kernel_rfl
def PushPost (P g n:Nat) (l:List Sp) (w:World) (e:Ending) (w':World):Prop:=e = .returned (.tuple #[])∧∃g' c' d',HpM P g' (n+1) c' d' w'∧d'=l∧KH P g w w'∧(g'=g∨w.heap.size≤g')
theorem rowPush_any (w:World) (P g n c:Nat) (d:List Sp) (x:Sp) (hM:HpM P g n c d w) (hn:n≤1000000) :
  Calls Tryz.prog 137 #[.pointer (some ⟨P,0,none⟩),.iface 70 (.agg #[.int .i64 x.1,.int .i64 x.2])] w (PushPost P g n (d ++ [x]) w):=by
 obtain⟨i0,hi0,hz0,hz1,hz2⟩:=info_parts (show (Tryz.prog.info? 70).map (fun i=>(i.zero,i.size,i.bytes))=some (some (.agg #[.int .i64 0,.int .i64 0]),2,16) by kernel_rfl)
 have HM:=hide hM
 have HOw:=hide hM.own
 have HPt:=hide hM.ptr
 have HNe:Hid (some P≠some g):=hide (fun e=>hM.ne (by injection e with e;exact e.symm))
 have p0:=hM.pc
 have hPl:=hM.plt
 have hgl:=hM.glt
 clear hM
 go_enter Tryz.func137,Tryz.ntmps137
 go_upto_region 0 with fail
 refine wpL_region (S:=Kept w) [7,9] (by kernel_rfl) (Kept.drew w) (fun hS0=>?_)
 refine twa 0 4 ?_
 refine twa 1 5 ?_
 refine twa 2 6 ?_
 refine tla 3 7 ?_
 refine twa 4 8 ?_
 refine tw 5 9 ?_ ?_ ?_;rotate_left;(focus (intro w;have hh:=spot_as w x;go_simp;(try with_reducible rfl);done));(try simp only[zqd,zqe,zqf])
 refine cl 6 10 fun K hK=>?_
 go_simp
 have hS1:Kept w (w.drew.alloc (.cells #[.int .i64 x.1,.int .i64 x.2] 70)):=fun p hp=>World.cell?_alloc_lt _ _ _ hp
 refine hK.out _ _ hS1 (fun hSn=>?_)
 clear hK K
 try simp only[zqd,zqe,zqf]
 refine xl 7 fun K hK=>?_
 refine op_app (.tmp 7) (.tmp 10) 72 rfl 0 70 i0 (.agg #[.int .i64 0,.int .i64 0]) 2 16 Tryz.underlying72 hi0 hz0 hz1 hz2 rfl (by decide) (.slice (some ⟨g,0,none⟩) n c) n _ rfl (HOw.out.drew.alloc _) (w.heap.size+1) (some ⟨w.heap.size,0,none⟩) 1 1 [.int .i64 x.1,.int .i64 x.2] rfl rfl (Rd.new _ _ _ _) (by simp[Value.oneCell']) (by unfold maxLen;omega) (by omega) (Nat.zero_le _) ?_
 intro A' c' y own3 hg3 hat3
 have hP1:=hide (grown_at (HPt.out) hg3 HNe.out hPl)
 have HO3:=hide own3
 have HAt:=hide hat3
 have HG3:=hide hg3
 clear own3 hg3 hat3
 have yp:y.cell? ⟨P,0,none⟩=some (.slice (some ⟨g,0,none⟩) n c):=cell_of_row _ _ 0 _ _ _ hP1.out
 have yf:=zf hP1.out 0
 refine hK.out _ _ ?_
 clear hK K
 simp only[Act.put]
 try simp only[zqd,zqe,zqf]
 refine twa 8 12 ?_
 refine xl 9 fun K hK=>?_
 go_wp2_with fail
 refine hK.out _ _ ?_
 clear hK K
 try simp only[zqd,zqe,zqf]
 refine wpAnyL_done (by kernel_rfl) ?_ _
 obtain⟨g',rfl,_,hg9,hn9⟩:=own_addr HO3.out (by omega)
 have hgg:g'=g∨w.heap.size≤g':=by
  rcases HAt.out with h | h
  ·exact .inl (by injection h)
  refine .inr ?_
  have h:some g'=some _:=h
  injection h with h
  rw[h];simp
 have hgP:g'≠P:=by
  rcases hgg with h | h
  ·subst h;exact fun e=>HNe.out (by rw[e])
  omega
 have hp2:=heap_setCell_same y P 0 _ _ (.slice (some ⟨g',0,none⟩) (n+1) c') hP1.out
 have HFin:Hid (PushPost P g n (d ++ [x]) w (.returned (.tuple #[])) (y.setCell ⟨P,0,none⟩ (.slice (some ⟨g',0,none⟩) (n+1) c'))):=hide (by
  refine⟨rfl,g',c',d ++ [x],⟨by rw[List.length_append,HM.out.len];rfl,?_,by simpa using hp2⟩,rfl,?_,hgg⟩
  ·have e:spV (d ++ [x])=spV d ++ [.int .i64 x.1,.int .i64 x.2]:=by simp[spV]
   rw[e]
   exact own_block_ne HO3.out ((FarS.refl P P y).set (p:=⟨P,0,none⟩) (.inl rfl) _) hgP
  exact ((((KH.refl P g w).drew).below ((Below.refl _ _).alloc (Nat.le_refl _) _) (Nat.le_refl _)).grown HG3.out).setCell (p:=⟨P,0,none⟩) (.inl rfl) _)
 clear hp2 hS0 hSn yp yf p0
 go_wp2
 go_end0
 exact HFin.out
def PopPost (P g k c:Nat) (d:List Sp) (x:Sp) (w:World) (e:Ending) (w':World):Prop:=e = .returned (.iface 70 (.agg #[.int .i64 x.1,.int .i64 x.2]))∧HpM P g k c d w'∧KH P g w w'
theorem rowPop_any (w:World) (P g n c:Nat) (d:List Sp) (x:Sp) (hM:HpM P g (n+1) c (d ++ [x]) w) (hn:n≤1000000) :
  Calls Tryz.prog 136 #[.pointer (some ⟨P,0,none⟩)] w (PopPost P g n c d x w):=by
 have hl:d.length=n:=by have:=hM.len;simp at this;exact this
 obtain⟨x0,x1⟩:=hM.get (i:=n) (m:=x) (by rw[List.getElem?_append_right (by omega),hl,Nat.sub_self];rfl)
 have HM:=hide hM
 have p0:=hM.pc
 have hPl:=hM.plt
 have hgl:=hM.glt
 have hcap:=hM.cap
 have e1:IntKind.i64.wrap (((n+1:Nat):Int)-1)=(n:Int):=by rw[show ((n+1:Nat):Int)-1=(n:Int) by omega];exact IntWalk.i64_in _ (by omega)
 have e2:((n+1:Nat):Int)-1=(n:Int):=by omega
 obtain⟨N,hN⟩:∃N,n+1=N:=⟨_,rfl⟩
 rw[hN] at e1 e2 p0 hcap HM
 have hn1:(n:Int)<(N:Int):=by omega
 have hn0:(0:Int)≤(n:Int):=by omega
 have hnc:n≤c:=by omega
 have hncI:(n:Int)≤(c:Int):=by omega
 have HNN:=hide hN
 have HLd:=hide hl
 clear hM hN hl
 obtain⟨u,hu⟩:∃u,w.alloc (.cells #[.int .i64 x.1,.int .i64 x.2] 70)=u:=⟨_,rfl⟩
 have hbu:Below w.heap.size w u:=by rw[←hu];exact (Below.refl _ _).alloc (Nat.le_refl _) _
 have hul:u.heap[w.heap.size]?=some (.cells #[.int .i64 x.1,.int .i64 x.2] 70):=by rw[←hu];exact heap_alloc_last _ _
 have HMu:=hide (HM.out.below hbu)
 have HU:=hide hu
 clear hu
 go_enter Tryz.func136,Tryz.ntmps136
 go_upto_region 3 with fail
 rw[HU.out]
 have q0:=HMu.out.pc
 have qf:=zf HMu.out.ptr 0
 have hp2:=heap_setCell_same u P 0 _ _ (.slice (some ⟨g,0,none⟩) n c) HMu.out.ptr
 obtain⟨f,hf⟩:∃f,u.setCell ⟨P,0,none⟩ (.slice (some ⟨g,0,none⟩) n c)=f:=⟨_,rfl⟩
 have hff:FarG P u f:=by rw[←hf];exact (FarS.refl P P u).set (p:=⟨P,0,none⟩) (.inl rfl) _
 rw[hf] at hp2
 have hul2:=(hff.block w.heap.size (by omega) (by omega)).trans hul
 obtain⟨f0,f1⟩:=zr2 hul2
 have HFin:Hid (PopPost P g n c d x w (.returned (.iface 70 (.agg #[.int .i64 x.1,.int .i64 x.2]))) f):=hide (by
  refine⟨rfl,⟨HLd.out,?_,by simpa using hp2⟩,?_⟩
  ·have ht:=own_take HMu.out.own (k:=n) (by have:=HNN.out;omega)
   have e:(spV (d ++ [x])).take (n*2)=spV d:=by
    have:spV (d ++ [x])=spV d ++ [.int .i64 x.1,.int .i64 x.2]:=by simp[spV]
    rw[this,List.take_left' (by rw[spV_len,HLd.out])]
   rw[e] at ht
   exact own_block_ne ht hff HMu.out.ne
  rw[←hf];exact (KH.of_below hbu).setCell (p:=⟨P,0,none⟩) (.inl rfl) _)
 have HFe:=hide hf
 clear hp2 hff hul2 hul hbu hf x0 x1 p0
 go_upto_region 4 with fail
 rw[HFe.out]
 clear q0 qf
 go_wp2
 go_ret
 exact HFin.out
def HPushPost (P g n:Nat) (d:List Sp) (x:Sp) (w:World) (e:Ending) (w':World):Prop:=e = .returned (.tuple #[])∧∃g' c' d',HpM P g' (n+1) c' d' w'∧d'.Perm (d ++ [x])∧HeapO d'∧KH P g w w'∧(g'=g∨w.heap.size≤g')
theorem KH.sub {P g g':Nat} {v w w':World} (h:KH P g v w) (h':KH P g' w w') (hg:g'=g∨v.heap.size≤g'):KH P g v w':=
 ⟨h'.os.trans h.os,h'.tape.trans h.tape,h'.output.trans h.output,Nat.le_trans h.size h'.size,fun b hb h1 h2=>(h'.blk b (Nat.lt_of_lt_of_le hb h.size) h1 (by rcases hg with e | e <;> omega)).trans (h.blk b hb h1 h2)⟩
theorem heapPush_any (w:World) (P g n c:Nat) (d:List Sp) (x:Sp) (hM:HpM P g n c d w) (hn:n≤100000) (hH:HeapO d) :
  Calls Tryz.prog 39 #[.iface 68 (.pointer (some ⟨P,0,none⟩)),.iface 70 (.agg #[.int .i64 x.1,.int .i64 x.2])] w (HPushPost P g n d x w):=by
 have hm:=mPush w P
 have HC:=hide (rowPush_any w P g n c d x hM (by omega))
 have HH:=hide hH
 have HL:=hide hM.len
 clear hM hH
 go_enter Tryz.func39,Tryz.ntmps39
 go_wp2_with fail
 refine HC.out.mono ?_
 rintro e y ⟨rfl,g',c',d',hM,rfl,hK,hg⟩
 have hm2:=hM.mLen
 have HM:=hide hM
 have HK:=hide hK
 have HG:=hide hg
 clear hm HC hM hK hg
 go_wp2_with fail
 refine (hlen_any y (some ⟨g',0,none⟩) (n+1) c').mono ?_
 rintro e y1 ⟨rfl,rfl⟩
 have e1:IntKind.i64.wrap (((n+1:Nat):Int)-1)=(n:Int):=by rw[show ((n+1:Nat):Int)-1=(n:Int) by omega];exact IntWalk.i64_in _ (by omega)
 have e2:((n+1:Nat):Int)-1=(n:Int):=by omega
 obtain⟨N,hN⟩:∃N,n+1=N:=⟨_,rfl⟩
 rw[hN] at e1 e2 HM ⊢
 have hu:UpInv (d ++ [x]) n:=by have h:=UpInv.push HH.out x;rw[HL.out] at h;exact h
 have HU:=hide (up_any y1 P g' N c' (d ++ [x]) n HM.out (by omega) (by omega) hu)
 have HN:=hide hN
 clear hm2 hu hN
 go_wp2_with fail
 refine HU.out.mono ?_
 rintro e z ⟨rfl,d2,hM2,hp2,hh2,hk2⟩
 have HFin:Hid (HPushPost P g n d x w (.returned (.tuple #[])) z):=hide ⟨rfl,g',c',d2,by rw[HN.out];exact hM2,hp2,hh2,HK.out.sub hk2 HG.out,HG.out⟩
 clear hM2 hp2 hh2 hk2 HU
 go_wp2
 go_end0
 exact HFin.out
def HPopPost (P g n c:Nat) (d:List Sp) (w:World) (e:Ending) (w':World):Prop:=∃x d',d[0]?=some x∧e = .returned (.iface 70 (.agg #[.int .i64 x.1,.int .i64 x.2]))∧HpM P g n c d' w'∧(d' ++ [x]).Perm d∧HeapO d'∧KH P g w w'
theorem heapPop_any (w:World) (P g n c:Nat) (d:List Sp) (hM:HpM P g (n+1) c d w) (hn:n≤100000) (hH:HeapO d) :
  Calls Tryz.prog 36 #[.iface 68 (.pointer (some ⟨P,0,none⟩))] w (HPopPost P g n c d w):=by
 obtain⟨b,y,rfl⟩:∃b y,d=b ++ [y]:=by
  rcases List.eq_nil_or_concat d with h | ⟨b,y,h⟩
  ·have:=hM.len;rw[h] at this;simp at this
  exact⟨b,y,by rw[h,List.concat_eq_append]⟩
 have hbl:b.length=n:=by have:=hM.len;simp at this;exact this
 obtain⟨x,hx⟩:∃x,(b ++ [y])[0]?=some x:=⟨_,List.getElem?_eq_getElem (by simp)⟩
 have hy:(b ++ [y])[n]?=some y:=by rw[List.getElem?_append_right (by omega),hbl,Nat.sub_self];rfl
 have hswp:((b ++ [y]).set 0 y).set n x=b.set 0 y ++ [x]:=by
  rcases b with _ | ⟨z,b⟩
  ·simp at hbl;subst hbl;rfl
  rw[List.set_append_left _ _ (by simp),List.set_append_right _ _ (by rw[List.length_set];omega),List.length_set,hbl,Nat.sub_self];rfl
 have HSw:=hide hswp
 have HX:=hide hx
 have HY:=hide hy
 have HBl:=hide hbl
 have HH:=hide hH
 have HPp:=hide (swap_perm hx hy)
 have hm:=hM.mLen
 have HM:=hide hM
 have e1:IntKind.i64.wrap (((n+1:Nat):Int)-1)=(n:Int):=by rw[show ((n+1:Nat):Int)-1=(n:Int) by omega];exact IntWalk.i64_in _ (by omega)
 have e2:((n+1:Nat):Int)-1=(n:Int):=by omega
 obtain⟨N,hN⟩:∃N,n+1=N:=⟨_,rfl⟩
 rw[hN] at e1 e2 HM hm
 have HN:=hide hN
 have hnN:n<N:=by omega
 clear hM hH hx hy hswp hbl hN
 go_enter Tryz.func36,Tryz.ntmps36
 go_wp2_with fail
 refine (hlen_any w (some ⟨g,0,none⟩) N c).mono ?_
 rintro e y1 ⟨rfl,rfl⟩
 clear hm
 have hms:=HM.out.mSwap
 have HC:=hide (hswap_any y1 P g N c (b ++ [y]) 0 n x y HM.out HX.out HY.out)
 go_wp2_with fail
 refine HC.out.mono ?_
 rintro e y2 ⟨rfl,hm2,hk2,hz2⟩
 rw[HSw.out] at hm2
 have HD:=hide (down_any y2 P g N c n (b.set 0 y) [x] hm2 (by rw[List.length_set];exact HBl.out) (by omega) (DownInv.first HH.out x _ rfl))
 have HK2:=hide hk2
 clear hm2 hk2 hz2 hms HC
 go_wp2_with fail
 refine HD.out.mono ?_
 rintro e y3 ⟨⟨bb,rfl⟩,a',hm3,hp3,hh3,hk3⟩
 have hmp:=mPop y3 P
 have HP:=hide (rowPop_any y3 P g n c a' x (by rw[HN.out];exact hm3) (by omega))
 have HK3:=hide (HK2.out.trans hk3)
 have HP3:=hide hp3
 have HH3:=hide hh3
 clear hm3 hp3 hh3 hk3 HD HK2
 go_wp2_with fail
 refine HP.out.mono ?_
 rintro e y4 ⟨rfl,hm4,hk4⟩
 have HFin:Hid (HPopPost P g n c (b ++ [y]) y1 (.returned (.iface 70 (.agg #[.int .i64 x.1,.int .i64 x.2]))) y4):=hide ⟨x,a',HX.out,rfl,hm4,by
  have h:=HPp.out
  rw[HSw.out] at h
  exact (List.Perm.append_right [x] HP3.out).trans h,HH3.out,HK3.out.trans hk4⟩
 clear hm4 hk4 hmp HP
 go_wp2
 go_ret
 exact HFin.out
structure UpM (w:World) (Bu Br G n:Nat) (u:List Nat):Prop where
 cu:w.cell? ⟨Bu,0,none⟩=some (.slice (some ⟨G,0,none⟩) n n)
 cr:w.cell? ⟨Br,0,none⟩=some (.func (.func 33) #[] #[.pointer (some ⟨Bu,0,none⟩),.pointer (some ⟨Br,0,none⟩)])
 row:RowI w G 3 (natI u)
 len:u.length=n
def RootS (u u':List Nat):Prop:=u'.length=u.length∧UpOk u'∧∀x,rootF u' x=rootF u x
theorem UpM.far {w w':World} {Bu Br G n:Nat} {u u':List Nat} (h:UpM w Bu Br G n u) (hf:FarG G w w') (hu:Bu≠G) (hr:Br≠G) (hrow:RowI w' G 3 (natI u')) (hl:u'.length=u.length):UpM w' Bu Br G n u':=
 ⟨(World.cell?_of_block (hf.block Bu hu hu)).trans h.cu,(World.cell?_of_block (hf.block Br hr hr)).trans h.cr,hrow,hl.trans h.len⟩
theorem UpM.drew {w:World} {Bu Br G n:Nat} {u:List Nat} (h:UpM w Bu Br G n u):UpM w.drew Bu Br G n u:=⟨h.cu,h.cr,h.row,h.len⟩
def RootPost (G:Nat) (u:List Nat) (v:Nat) (w:World) (e:Ending) (w':World):Prop:=
 e = .returned (.int .i64 (rootF u v:Int))∧∃u',RootS u u'∧upAt u' v=rootF u v∧RowI w' G 3 (natI u')∧FarG G w w'
theorem root_any (Bu Br G n:Nat) (hBu:Bu≠G) (hBr:Br≠G) (hn:n≤512):∀(N:Nat) (w:World) (u:List Nat) (v:Nat),v≤N→v<n→UpM w Bu Br G n u→UpOk u →
    Calls Tryz.prog 33 #[.int .i64 (v:Int),.pointer (some ⟨Bu,0,none⟩),.pointer (some ⟨Br,0,none⟩)] w (RootPost G u v w):=by
  intro N
  induction N with
  | zero=>?_
  | succ N ih=>?_
  all_goals
    intro w u v hvN hvn hM hU
    have hcu:=hM.cu
    have hcr:=hM.cr
    have hg:=hM.row.cell (i:=v) (by rw[natI_len,hM.len];exact hvn)
    rw[natI_at (by rw[hM.len];exact hvn)] at hg
    have hgt:=hU v
    have hi0:(0:Int)≤(v:Int):=by omega
    have hi1:(v:Int)<(n:Int):=by omega
    obtain⟨p,hp⟩:∃p,upAt u v=p:=⟨_,rfl⟩
    rw[hp] at hg hgt
    have HM:=hide hM
    have HUp:=hide hU
    have HP:=hide hp
    clear hM hU hp
    by_cases hpv:p=v
    · subst hpv
      have HFin:Hid (RootPost G u p w (.returned (.int .i64 (p:Int))) w):=hide ⟨by rw[root_of_fix HP.out],u,⟨rfl,HUp.out,fun _=>rfl⟩,by rw[root_of_fix HP.out];exact HP.out,HM.out.row,FarS.refl _ _ _⟩
      go_enter Tryz.func33,Tryz.ntmps33
      go_wp2
      go_ret
      exact HFin.out
    first
    | omega
    | (have hne:¬(p:Int)=(v:Int):=by omega
       have IH:=hide ih
       have hpi:(0:Int)≤(p:Int):=by omega
       have hle2:p≤N:=by omega
       have hvn2:p<n:=by omega
       have hroot:rootF u v=rootF u p:=by rw[root_step (by rw[HP.out];omega),HP.out]
       have HR:=hide hroot
       clear ih hroot
       go_enter Tryz.func33,Tryz.ntmps33
       go_wp2_with fail
       refine wpL_region (S:=(fun w9:World=>w9.cell? ⟨Bu,0,none⟩=some (.slice (some ⟨G,0,none⟩) n n)∧w9.cell? ⟨Br,0,none⟩=some (.func (.func 33) #[] #[.pointer (some ⟨Bu,0,none⟩),.pointer (some ⟨Br,0,none⟩)]))) [9] (by kernel_rfl) ⟨hcu,hcr⟩ (fun hS0=>?_)
       refine tla 0 11 ?_
       refine tla 1 12 ?_
       refine tla 2 13 ?_
       refine tla 3 14 ?_
       refine tla 4 15 ?_
       refine tla 5 16 ?_
       refine cl 6 17 fun K hK=>?_
       go_simp
       refine hK.out _ _ hS0 (fun hSn=>?_)
       clear hK K
       try simp only[zqd,zqe,zqf]
       refine cl 7 18 fun K hK=>?_
       go_simp
       refine (IH.out w.drew u p hle2 hvn2 HM.out.drew HUp.out).mono ?_
       rintro e y ⟨rfl,u1,hs1,hup1,hrow1,hf1⟩
       have hf1:=((FarS.refl G G w).drew).trans hf1
       have hM1:=HM.out.far hf1 hBu hBr hrow1 hs1.1
       have hS1:y.cell? ⟨Bu,0,none⟩=some (.slice (some ⟨G,0,none⟩) n n)∧y.cell? ⟨Br,0,none⟩=some (.func (.func 33) #[] #[.pointer (some ⟨Bu,0,none⟩),.pointer (some ⟨Br,0,none⟩)]):=⟨hM1.cu,hM1.cr⟩
       have HM1:=hide hM1
       have HS1:=hide hs1
       have HF1:=hide hf1
       have yfz:=hM1.row.frozen v
       have yg:=hM1.row.cell (i:=v) (by rw[natI_len,hM1.len];exact hvn)
       clear hM1 hs1 hf1 hrow1 hup1
       go_wp2_with fail
       refine hK.out _ _ hS1 (fun hSn=>?_)
       clear hK K
       try simp only[zqd,zqe,zqf]
       refine tla 8 19 ?_
       refine xl 9 fun K hK=>?_
       go_wp2_with fail
       refine hK.out _ _ ?_
       clear hK K
       try simp only[zqd,zqe,zqf]
       refine wpAnyL_done (by kernel_rfl) ?_ _
       obtain⟨r,hr⟩:∃r,rootF u p=r:=⟨_,rfl⟩
       rw[hr]
       have hset:=hide (set_root HS1.out.2.1 v)
       have hrv:rootF u1 v=r:=by rw[HS1.out.2.2 v,HR.out,hr]
       have hsn:=HM1.out.row.set v (r:Int)
       rw[natI_set] at hsn
       have hu1l:v<u1.length:=by rw[HM1.out.len];exact hvn
       have hM2:UpM (y.setCell ⟨G,v,none⟩ (.int .i64 (r:Int))) Bu Br G n (u1.set v r):=HM1.out.far ((FarS.refl G G y).set (.inl rfl) _) hBu hBr hsn (by simp)
       have hat:upAt (u1.set v r) v=r:=by rw[upAt_set,if_pos ⟨rfl,hu1l⟩]
       have g2:=hsn.cell (i:=v) (by rw[natI_len,List.length_set];exact hu1l)
       rw[natI_at (by rw[List.length_set];exact hu1l),hat] at g2
       have hc2:=hM2.cu
       have HFin:Hid (RootPost G u v w (.returned (.int .i64 (r:Int))) (y.setCell ⟨G,v,none⟩ (.int .i64 (r:Int)))):=hide ⟨by rw[HR.out,hr],u1.set v r,⟨by rw[List.length_set];exact HS1.out.1,set_ok HS1.out.2.1 (by rw[←hrv];exact root_le _ _),fun x=>by
         have h:=hset.out x
         rw[hrv] at h
         rw[h];exact HS1.out.2.2 x⟩,by rw[hat,HR.out,hr],hsn,HF1.out.trans ((FarS.refl G G y).set (.inl rfl) _)⟩
       clear hsn hM2 hat hrv hr hset hS1 hS0 hSn hcu hcr yg
       go_wp2
       go_ret
       exact HFin.out)
def labI (es:List Ed) (M:Nat):List Int:=(List.range M).map (fun x=>((labF es x:Nat):Int))
def labL (V:Int) (es:List Ed):List Int:=if checkF V es=0 then labI es V.toNat else []
def labK (es:List Ed) (M k:Nat):List Int:=labI es k ++ List.replicate (M-k) 0
theorem labK_len (es:List Ed) {M k:Nat} (h:k≤M):(labK es M k).length=M:=by simp[labK,labI];omega
theorem labK_zero (es:List Ed) (M:Nat):labK es M 0=List.replicate M 0:=by simp[labK,labI]
theorem labK_full (es:List Ed) (M:Nat):labK es M M=labI es M:=by simp[labK]
theorem labK_set (es:List Ed) {M k:Nat} (h:k<M):(labK es M k).set k (labF es k:Int)=labK es M (k+1):=by
 unfold labK labI
 rw[List.set_append_right _ _ (by simp)]
 simp only[List.length_map,List.length_range,Nat.sub_self]
 rw[show M-k=(M-(k+1))+1 by omega,List.replicate_succ,List.set_cons_zero,List.range_succ,List.map_append,List.append_assoc]
 rfl
def upK (M k:Nat):List Nat:=List.range k ++ List.replicate (M-k) 0
theorem upK_zero (M:Nat):natI (upK M 0)=List.replicate M 0:=by simp[upK,natI]
theorem upK_full (M:Nat):upK M M=List.range M:=by simp[upK]
theorem upK_len {M k:Nat} (h:k≤M):(upK M k).length=M:=by simp[upK];omega
theorem upK_set {M k:Nat} (h:k<M):(upK M k).set k k=upK M (k+1):=by
 unfold upK
 rw[List.set_append_right _ _ (by simp)]
 simp only[List.length_range,Nat.sub_self]
 rw[show M-k=(M-(k+1))+1 by omega,List.replicate_succ,List.set_cons_zero,List.range_succ,List.append_assoc]
 rfl
theorem up_range (M v:Nat):upAt (List.range M) v=v:=by
 unfold upAt
 rcases Nat.lt_or_ge v M with h | h
 ·rw[List.getElem?_range h];rfl
 rw[List.getElem?_eq_none (by simpa using h)];rfl
def UpF (es:List Ed) (i:Nat) (u:List Nat):Prop:=UpOk u∧∀x,rootF u x=((es.take i).foldl labStep id) x
theorem UpF.first (es:List Ed) (M:Nat):UpF es 0 (List.range M):=⟨fun v=>by rw[up_range];exact Nat.le_refl _,fun x=>by rw[root_of_fix (up_range M x)];simp⟩
theorem UpF.root {es:List Ed} {i:Nat} {u u':List Nat} (h:UpF es i u) (hs:RootS u u'):UpF es i u':=⟨hs.2.1,fun x=>(hs.2.2 x).trans (h.2 x)⟩
theorem UpF.step {es:List Ed} {i:Nat} {e:Ed} {u u1 u2:List Nat} (h:UpF es i u) (he:es[i]?=some e) (h1:RootS u u1) (h2:RootS u1 u2) (ha:e.1.toNat<u.length) (hb:e.2.1.toNat<u.length) :
  UpF es (i+1) (u2.set (max (rootF u e.1.toNat) (rootF u1 e.2.1.toNat)) (min (rootF u e.1.toNat) (rootF u1 e.2.1.toNat))):=by
 have r1:=root_le u e.1.toNat
 have r2:=root_le u1 e.2.1.toNat
 have l2:u2.length=u.length:=h2.1.trans h1.1
 have ea:rootF u2 (rootF u e.1.toNat)=rootF u e.1.toNat:=by rw[h2.2.2,h1.2.2,root_root h.1]
 have eb:rootF u2 (rootF u1 e.2.1.toNat)=rootF u1 e.2.1.toNat:=by rw[h2.2.2,root_root h1.2.1]
 have hj:=set_join h2.2.1 (fix_of_root h2.2.1 ea) (fix_of_root h2.2.1 eb) (by omega) (by omega)
 refine⟨set_ok h2.2.1 (by omega),fun x=>?_⟩
 rw[hj x,List.take_add_one,he,List.foldl_append]
 simp only[Option.toList_some,List.foldl_cons,List.foldl_nil]
 have hx:=h.2
 obtain⟨f,hf⟩:∃f,(es.take i).foldl labStep id=f:=⟨_,rfl⟩
 rw[hf] at hx ⊢
 unfold labStep
 rw[←hx x,←hx e.1.toNat,←hx e.2.1.toNat,h2.2.2,h1.2.2,h1.2.2]
theorem st_func (w:World) (T:TypeId) (fn:Fn) (f c:Array Value):(store ⟨w.heap.size,0,none⟩ (.func fn f c)).run Tryz.prog (w.alloc (.cells #[.nilFunc] T)) = .ok () (w.alloc (.cells #[.func fn f c] T)):=by
 rw[run_store Tryz.prog _ _ _ _ rfl]
 simp[go_sem]
theorem labels_any (w:World) (V:Int) (A:Option Addr) (es:List Ed) (L c:Nat) (hL:es.length=L) (hE:Eds w w.heap.size A es) (hc:L≤8192) :
  Calls Tryz.prog 12 #[.agg #[.int .i64 V,.slice A L c]] w (LPost w (checkF V es) (labL V es)):=by
 obtain⟨v,hv⟩:∃v,w.alloc (.cells #[.int .i64 V,.slice A L c] 24)=v:=⟨_,rfl⟩
 have hz:v.heap.size=w.heap.size+1:=by rw[←hv];simp
 have hb:Below w.heap.size w v:=by rw[←hv];exact (Below.refl _ _).alloc (Nat.le_refl _) _
 have cg:v.heap[w.heap.size]?=some (.cells #[.int .i64 V,.slice A L c] 24):=by rw[←hv];exact heap_alloc_last w _
 obtain⟨c0,c1⟩:=zr2 cg
 have HEw:=hide hE
 have HE:Hid (Eds v v.heap.size A es):=hide ((hE.below hb (Nat.le_refl _)).more hb.size)
 have HV:=hide hv
 have HB:=hide hb
 have HL:=hide hL
 have HZ:=hide hz
 have HG:=hide cg
 clear hv hb hz cg hE hL
 go_enter Tryz.func12,Tryz.ntmps12
 go_wp2_with fail
 rw[HV.out]
 go_wp2_with fail
 refine (check_any _ V A es L c HL.out HE.out (by omega)).mono ?_
 rintro e y ⟨rfl,hy⟩
 have HBy:=hide (HB.out.trans (hy.mono HB.out.size))
 have HGy:=hide ((hy.block _ (by rw[HZ.out];omega)).trans HG.out)
 have hzy:w.heap.size+1≤y.heap.size:=by have:=hy.size;rw[HZ.out] at this;exact this
 have HEy:Hid (Eds y y.heap.size A es):=hide ((Eds.below HE.out hy (Nat.le_refl _)).more hy.size)
 clear hy c0 c1
 by_cases hchk:checkF V es=0
 ·obtain⟨hV1,hV2,hok⟩:=checkF_zero hchk
  obtain⟨M,rfl⟩:=Int.eq_ofNat_of_zero_le (show 0≤V by omega)
  have hM512:M≤512:=by omega
  have HRes:Hid (labL (M:Int) es=labI es M):=hide (by unfold labL;rw[if_pos hchk,Int.toNat_natCast])
  have HOk:=hide hok
  have HCk:=hide hchk
  rw[hchk]
  have c0:y.cell? ⟨w.heap.size,0,none⟩=some (.int .i64 (M:Int)):=cell_of_row _ _ 0 _ _ _ HGy.out
  have hmk:=mkI_run y M (by omega)
  obtain⟨x,hx⟩:∃x,y.alloc (.cells (intsV (List.replicate M 0)).toArray 3)=x:=⟨_,rfl⟩
  rw[hx] at hmk
  have HX0:=hide (show RowI x y.heap.size 3 (natI (upK M 0)) by rw[←hx,upK_zero];exact heap_alloc_last _ _)
  have HBx:=hide (show Below w.heap.size w x by rw[←hx];exact HBy.out.alloc (by omega) _)
  have HBy2:=hide (show Below y.heap.size y x by rw[←hx];exact (Below.refl _ _).alloc (Nat.le_refl _) _)
  have hxz:x.heap.size=y.heap.size+1:=by rw[←hx];simp
  have HXe:=hide hx
  clear hx hchk hok
  go_upto_region 5 with fail
  obtain⟨G,hG⟩:∃G,y.heap.size=G:=⟨_,rfl⟩
  rw[hG] at HX0 hzy hxz hmk ⊢
  obtain⟨Bu,hBu⟩:∃B,G+1=B:=⟨_,rfl⟩
  obtain⟨x1,hx1⟩:∃z,x.alloc (.cells #[.slice (some ⟨G,0,none⟩) M M] 65)=z:=⟨_,rfl⟩
  rw[hx1,hBu]
  have hcu1:x1.heap[Bu]?=some (.cells #[.slice (some ⟨G,0,none⟩) M M] 65):=by rw[←hx1,←hBu,←hxz];exact heap_alloc_last _ _
  have HRow1:=hide (show RowI x1 G 3 (natI (upK M 0)) by rw[←hx1];exact HX0.out.below ((Below.refl _ _).alloc (Nat.le_refl _) _) (by omega))
  have HB1:=hide (show Below w.heap.size w x1 by rw[←hx1];exact HBx.out.alloc (by omega) _)
  have HG1:=hide (show x1.heap[w.heap.size]?=some (.cells #[.int .i64 (M:Int),.slice A L c] 24) by rw[←hx1];exact (((Below.refl _ _).alloc (Nat.le_refl _) _).block _ (by omega)).trans ((HBy2.out.block _ (by omega)).trans HGy.out))
  have HCu1:=hide hcu1
  have hBuG:Bu≠G:=by omega
  have hBuz:Bu<x1.heap.size:=lt_of_block hcu1
  have hBw:w.heap.size<G:=by omega
  have u0:x1.cell? ⟨Bu,0,none⟩=some (.slice (some ⟨G,0,none⟩) M M):=cell_of_row _ _ 0 _ _ _ hcu1
  have HBuG:=hide (show Bu=G+1 by omega)
  clear hx1 hBu hG hcu1 c0 hmk hxz hzy HXe HBy2 HBx HX0 HGy HBy HEy
  go_wp2
  go_loopw [24] (fun v24 wr=>∃k:Nat,k≤M∧v24 = .int .i64 (k:Int)∧Hid (RowI wr G 3 (natI (upK M k)))∧Hid (FarG G x1 wr)) (fun v24 _=>M-(intOf v24).toNat)
  case atStart=>exact⟨0,by omega,rfl,HRow1,hide (FarS.refl _ _ _)⟩
  case round=>
   clear HRow1 u0
   obtain⟨k,hk,rfl,HRow,HF⟩:=hrel
   have u0:wr.cell? ⟨Bu,0,none⟩=some (.slice (some ⟨G,0,none⟩) M M):=(World.cell?_of_block (HF.out.block Bu hBuG hBuG)).trans (cell_of_row _ _ 0 _ _ _ HCu1.out)
   by_cases hlt:k<M
   ·have hI0:(0:Int)≤(k:Int):=by omega
    have hI1:(k:Int)<(M:Int):=by omega
    have gk:=HRow.out.cell (i:=k) (by rw[natI_len,upK_len hk];exact hlt)
    have gf:=HRow.out.frozen k
    have hs:=HRow.out.set k (k:Int)
    rw[natI_set,upK_set hlt] at hs
    have HS:=hide hs
    have HF2:=hide (HF.out.set (p:=⟨G,k,none⟩) (.inl rfl) (.int .i64 (k:Int)))
    clear hs HRow HF
    go_wp2
    go_roundw
    case rel=>exact⟨k+1,by omega,by go_num,HS,HF2⟩
    case measure=>simp[intOf];omega
   obtain rfl:M=k:=by omega
   rw[upK_full] at HRow
   have HBz:=hide (HB1.out.trans (HF.out.below (by omega) (by omega)))
   have HGz:=hide ((HF.out.block _ (by omega) (by omega)).trans HG1.out)
   have hBuz2:Bu<wr.heap.size:=by rw[HF.out.size];exact hBuz
   have HCu2:=hide ((HF.out.block Bu hBuG hBuG).trans HCu1.out)
   clear HF HB1 HG1 u0 hlt
   have hst:=st_func wr 66 (.func 33) #[] #[.pointer (some ⟨Bu,0,none⟩),.pointer (some ⟨wr.heap.size,0,none⟩)]
   go_upto_region 12 with fail
   obtain⟨Br,hBr⟩:∃B,wr.heap.size=B:=⟨_,rfl⟩
   obtain⟨z,hz⟩:∃z,wr.alloc (.cells #[(.func (.func 33) #[] #[.pointer (some ⟨Bu,0,none⟩),.pointer (some ⟨Br,0,none⟩)])] 66)=z:=⟨_,rfl⟩
   rw[hBr] at hst ⊢
   rw[hz]
   have hcr1:z.heap[Br]?=some (.cells #[(.func (.func 33) #[] #[.pointer (some ⟨Bu,0,none⟩),.pointer (some ⟨Br,0,none⟩)])] 66):=by rw[←hz,←hBr];exact heap_alloc_last _ _
   have hBz:Below wr.heap.size wr z:=by rw[←hz];exact (Below.refl _ _).alloc (Nat.le_refl _) _
   have hGw:G<wr.heap.size:=HRow.out.lt
   have hBrG:Br≠G:=by omega
   have HMz:Hid (UpM z Bu Br G M (List.range M)):=hide ⟨cell_of_row _ _ 0 _ _ _ ((hBz.block Bu (by omega)).trans HCu2.out),cell_of_row _ _ 0 _ _ _ hcr1,HRow.out.below hBz hGw,by simp⟩
   have HB0:=hide (HBz.out.trans (hBz.mono HBz.out.size))
   have HG0:=hide ((hBz.block _ (by omega)).trans HGz.out)
   have c1:z.cell? ⟨w.heap.size,1,none⟩=some (.slice A L c):=cell_of_row _ _ 1 _ _ _ HG0.out
   have hbrz:Br<z.heap.size:=lt_of_block hcr1
   have hbuz3:Bu<z.heap.size:=by have:=hBz.size;omega
   have HZr:=hide (And.intro hz hBr)
   clear hz hBr hcr1 hBz HRow HCu2 HBz HGz hst hGw
   go_wp2
   clear c1
   go_loopw [36] (fun v36 wr=>∃(i:Nat) (u:List Nat),i≤L∧v36 = .int .i64 (i:Int)∧Hid (UpM wr Bu Br G M u)∧Hid (UpF es i u)∧Hid (Below w.heap.size w wr)∧Hid (wr.heap[w.heap.size]?=some (.cells #[.int .i64 (M:Int),.slice A L c] 24))∧Bu<wr.heap.size∧Br<wr.heap.size) (fun v36 _=>L-(intOf v36).toNat)
   case atStart=>exact⟨0,List.range M,by omega,rfl,HMz,hide (UpF.first es M),HB0,HG0,hbuz3,hbrz⟩
   case round=>
    clear HMz HB0 HG0
    obtain⟨i,u,hi,rfl,HM,HUf,HBr,HGr,hlu,hlr⟩:=hrel
    have hsw:=HBr.out.size
    by_cases hlt:i<L
    ·obtain⟨e,he⟩:∃e,es[i]?=some e:=⟨_,List.getElem?_eq_getElem (by rw[HL.out];exact hlt)⟩
     have hfit:=fits_bounds (ok_all HOk.out he)
     obtain⟨b0,off,rfl,hbl,d0,d1,d2,hx1,hx2⟩:=Eds.get HEw.out he
     obtain⟨e1,e2,e3⟩:=e
     dsimp only at d0 d1 d2 hfit hx1 hx2
     obtain⟨a,rfl⟩:=Int.eq_ofNat_of_zero_le hfit.1
     obtain⟨b,rfl⟩:=Int.eq_ofNat_of_zero_le hfit.2.2.1
     have haM:a<M:=by omega
     have hbM:b<M:=by omega
     have d0:=(HBr.out.cell (p:=⟨b0,off+i*3,none⟩) hbl).trans d0
     have d1:=(HBr.out.cell (p:=⟨b0,off+i*3+1,none⟩) hbl).trans d1
     have d2:=(HBr.out.cell (p:=⟨b0,off+i*3+2,none⟩) hbl).trans d2
     have hI0:(0:Int)≤(i:Int):=by omega
     have hI1:(i:Int)<(L:Int):=by omega
     have hstp:=fun u1 u2=>UpF.step (u1:=u1) (u2:=u2) HUf.out he
     simp only[Int.toNat_natCast] at hstp
     have HSt:=hide hstp
     clear he hfit hstp
     obtain⟨t,ht⟩:∃q,wr.alloc (.cells #[.int .i64 (a:Int),.int .i64 (b:Int),.int .i64 e3] 46)=q:=⟨_,rfl⟩
     have htl:t.heap[wr.heap.size]?=some (.cells #[.int .i64 (a:Int),.int .i64 (b:Int),.int .i64 e3] 46):=by rw[←ht];exact heap_alloc_last _ _
     have hbt:Below wr.heap.size wr t:=by rw[←ht];exact (Below.refl _ _).alloc (Nat.le_refl _) _
     have HTe:=hide ht
     clear ht
     go_upto_region 15 with fail
     rw[HTe.out]
     obtain⟨T,hT⟩:∃T,wr.heap.size=T:=⟨_,rfl⟩
     rw[hT] at htl ⊢
     obtain⟨t0,t1⟩:=zr2 htl
     have hTG:T≠G:=by have:=HM.out.row.lt;omega
     have HM2:Hid (UpM t Bu Br G M u):=hide ⟨(hbt.cell (p:=⟨Bu,0,none⟩) hlu).trans HM.out.cu,(hbt.cell (p:=⟨Br,0,none⟩) hlr).trans HM.out.cr,HM.out.row.below hbt HM.out.row.lt,HM.out.len⟩
     have HBt:=hide (HBr.out.trans (hbt.mono HBr.out.size))
     have HGt:=hide ((hbt.block _ (by have:=lt_of_block HGr.out;omega)).trans HGr.out)
     have hlut:Bu<t.heap.size:=by have:=hbt.size;omega
     have hlrt:Br<t.heap.size:=by have:=hbt.size;omega
     have tcr:=HM2.out.cr
     have HUp:=hide HUf.out.1
     have HTs:=hide hT
     clear htl hbt HTe d0 d1 d2 HBr HGr hT hlu hlr hsw HM
     refine wp_region_held_drew (S:=(fun w9:World=>w9.cell? ⟨Br,0,none⟩=some (.func (.func 33) #[] #[.pointer (some ⟨Bu,0,none⟩),.pointer (some ⟨Br,0,none⟩)])∧w9.cell? ⟨T,0,none⟩=some (.int .i64 (a:Int))∧w9.cell? ⟨T,1,none⟩=some (.int .i64 (b:Int)))) (by kernel_rfl) ⟨tcr,t0,t1⟩ (fun hS0=>?_)
     refine tka 0 40 ?_
     refine tka 1 41 ?_
     refine tka 2 42 ?_
     refine tka 4 44 ?_
     refine tka 5 45 ?_
     refine tka 6 46 ?_
     refine ck 3 43 fun K hK=>?_
     go_simp
     refine (root_any Bu Br G M hBuG hBrG hM512 a t.drew u a (Nat.le_refl _) (by omega) HM2.out.drew HUp.out).mono ?_
     rintro e y1 ⟨rfl,u1,hs1,hat1,hrow1,hf1⟩
     have hf1:=((FarS.refl G G t).drew).trans hf1
     have HM3:=hide (HM2.out.far hf1 hBuG hBrG hrow1 hs1.1)
     have hS1:y1.cell? ⟨Br,0,none⟩=some (.func (.func 33) #[] #[.pointer (some ⟨Bu,0,none⟩),.pointer (some ⟨Br,0,none⟩)])∧y1.cell? ⟨T,0,none⟩=some (.int .i64 (a:Int))∧y1.cell? ⟨T,1,none⟩=some (.int .i64 (b:Int)):=⟨HM3.out.cr,(World.cell?_of_block (hf1.block T hTG hTG)).trans t0,(World.cell?_of_block (hf1.block T hTG hTG)).trans t1⟩
     have HS1:=hide hs1
     have HF1:=hide hf1
     have HA1:=hide hat1
     clear hs1 hf1 hrow1 hat1
     go_wp2_with fail
     refine hK.out _ _ hS1 (fun hSn=>?_)
     clear hK K
     try simp only[zqd,zqe,zqf]
     refine ck 7 47 fun K hK=>?_
     go_simp
     refine (root_any Bu Br G M hBuG hBrG hM512 b y1 u1 b (Nat.le_refl _) (by omega) HM3.out HS1.out.2.1).mono ?_
     rintro e y2 ⟨rfl,u2,hs2,hat2,hrow2,hf2⟩
     have HM4:=hide (HM3.out.far hf2 hBuG hBrG hrow2 hs2.1)
     have hS2:y2.cell? ⟨Br,0,none⟩=some (.func (.func 33) #[] #[.pointer (some ⟨Bu,0,none⟩),.pointer (some ⟨Br,0,none⟩)])∧y2.cell? ⟨T,0,none⟩=some (.int .i64 (a:Int))∧y2.cell? ⟨T,1,none⟩=some (.int .i64 (b:Int)):=⟨HM4.out.cr,(World.cell?_of_block (hf2.block T hTG hTG)).trans hS1.2.1,(World.cell?_of_block (hf2.block T hTG hTG)).trans hS1.2.2⟩
     have HS2:=hide hs2
     have HF2:=hide hf2
     have HA2:=hide hat2
     clear hs2 hf2 hrow2 hat2 hS1
     go_wp2_with fail
     refine hK.out _ _ hS2 (fun hSn=>?_)
     clear hK K
     try simp only[zqd,zqe,zqf]
     refine tka 8 10 ?_
     refine tka 9 11 ?_
     refine wpAnyH_done (by kernel_rfl) ?_ _
     clear t0 t1 tcr hS2 hSn hS0
     obtain⟨p,hp⟩:∃p,rootF u a=p:=⟨_,rfl⟩
     obtain⟨q,hq⟩:∃q,rootF u1 b=q:=⟨_,rfl⟩
     have hpM:p<M:=by have:=root_le u a;omega
     have hqM:q<M:=by have:=root_le u1 b;omega
     rw[hp,hq]
     have HPQ:=hide (And.intro hp hq)
     clear hp hq
     rcases Nat.lt_trichotomy p q with hpq | rfl | hpq
     ·have gk:=HM4.out.row.cell (i:=q) (by rw[natI_len,HM4.out.len];omega)
      have gf:=HM4.out.row.frozen q
      have hnew:=HM4.out.row.set q (p:Int)
      rw[natI_set] at hnew
      have hU2:=HSt.out u1 u2 HS1.out HS2.out (by rw[HM2.out.len];exact haM) (by rw[HM2.out.len];exact hbM)
      rw[HPQ.out.1,HPQ.out.2,Nat.max_eq_right (Nat.le_of_lt hpq),Nat.min_eq_left (Nat.le_of_lt hpq)] at hU2
      have HUn:=hide hU2
      have HMn:=hide (HM4.out.far ((FarS.refl G G y2).set (p:=⟨G,q,none⟩) (.inl rfl) (.int .i64 (p:Int))) hBuG hBrG hnew (by simp))
      have HFn:=hide ((HF1.out.trans HF2.out).trans ((FarS.refl G G y2).set (p:=⟨G,q,none⟩) (.inl rfl) (.int .i64 (p:Int))))
      have HBn:=hide (HBt.out.trans (HFn.out.below (by omega) (by omega)))
      have HGn:=hide ((HFn.out.block w.heap.size (by omega) (by omega)).trans HGt.out)
      have hln:Bu<(y2.setCell ⟨G,q,none⟩ (.int .i64 (p:Int))).heap.size:=by rw[HFn.out.size];exact hlut
      have hln2:Br<(y2.setCell ⟨G,q,none⟩ (.int .i64 (p:Int))).heap.size:=by rw[HFn.out.size];exact hlrt
      have ycu:=HM4.out.cu
      clear hnew hU2 HPQ HM3 HM4 HS1 HS2 HF1 HF2 HA1 HA2 hlut hlrt
      go_wp2
      go_roundw
      case rel=>exact⟨i+1,u2.set q p,by omega,by go_num,HMn,HUn,HBn,HGn,hln,hln2⟩
      case measure=>simp[intOf];omega
     ·have gk:=HM4.out.row.cell (i:=p) (by rw[natI_len,HM4.out.len];omega)
      have gf:=HM4.out.row.frozen p
      have hnew:=HM4.out.row.set p (p:Int)
      rw[natI_set] at hnew
      have hU2:=HSt.out u1 u2 HS1.out HS2.out (by rw[HM2.out.len];exact haM) (by rw[HM2.out.len];exact hbM)
      rw[HPQ.out.1,HPQ.out.2,Nat.max_self,Nat.min_self] at hU2
      have HUn:=hide hU2
      have HMn:=hide (HM4.out.far ((FarS.refl G G y2).set (p:=⟨G,p,none⟩) (.inl rfl) (.int .i64 (p:Int))) hBuG hBrG hnew (by simp))
      have HFn:=hide ((HF1.out.trans HF2.out).trans ((FarS.refl G G y2).set (p:=⟨G,p,none⟩) (.inl rfl) (.int .i64 (p:Int))))
      have HBn:=hide (HBt.out.trans (HFn.out.below (by omega) (by omega)))
      have HGn:=hide ((HFn.out.block w.heap.size (by omega) (by omega)).trans HGt.out)
      have hln:Bu<(y2.setCell ⟨G,p,none⟩ (.int .i64 (p:Int))).heap.size:=by rw[HFn.out.size];exact hlut
      have hln2:Br<(y2.setCell ⟨G,p,none⟩ (.int .i64 (p:Int))).heap.size:=by rw[HFn.out.size];exact hlrt
      have ycu:=HM4.out.cu
      clear hnew hU2 HPQ HM3 HM4 HS1 HS2 HF1 HF2 HA1 HA2 hlut hlrt
      go_wp2
      go_roundw
      case rel=>exact⟨i+1,u2.set p p,by omega,by go_num,HMn,HUn,HBn,HGn,hln,hln2⟩
      case measure=>simp[intOf];omega
     have gk:=HM4.out.row.cell (i:=p) (by rw[natI_len,HM4.out.len];omega)
     have gf:=HM4.out.row.frozen p
     have hnew:=HM4.out.row.set p (q:Int)
     rw[natI_set] at hnew
     have hU2:=HSt.out u1 u2 HS1.out HS2.out (by rw[HM2.out.len];exact haM) (by rw[HM2.out.len];exact hbM)
     rw[HPQ.out.1,HPQ.out.2,Nat.max_eq_left (Nat.le_of_lt hpq),Nat.min_eq_right (Nat.le_of_lt hpq)] at hU2
     have HUn:=hide hU2
     have HMn:=hide (HM4.out.far ((FarS.refl G G y2).set (p:=⟨G,p,none⟩) (.inl rfl) (.int .i64 (q:Int))) hBuG hBrG hnew (by simp))
     have HFn:=hide ((HF1.out.trans HF2.out).trans ((FarS.refl G G y2).set (p:=⟨G,p,none⟩) (.inl rfl) (.int .i64 (q:Int))))
     have HBn:=hide (HBt.out.trans (HFn.out.below (by omega) (by omega)))
     have HGn:=hide ((HFn.out.block w.heap.size (by omega) (by omega)).trans HGt.out)
     have hln:Bu<(y2.setCell ⟨G,p,none⟩ (.int .i64 (q:Int))).heap.size:=by rw[HFn.out.size];exact hlut
     have hln2:Br<(y2.setCell ⟨G,p,none⟩ (.int .i64 (q:Int))).heap.size:=by rw[HFn.out.size];exact hlrt
     have ycu:=HM4.out.cu
     clear hnew hU2 HPQ HM3 HM4 HS1 HS2 HF1 HF2 HA1 HA2 hlut hlrt
     go_wp2
     go_roundw
     case rel=>exact⟨i+1,u2.set p q,by omega,by go_num,HMn,HUn,HBn,HGn,hln,hln2⟩
     case measure=>simp[intOf];omega
    obtain rfl:L=i:=by omega
    have hLf:(es.take L).foldl labStep id=labF es:=by rw[List.take_of_length_le (by rw[HL.out];exact Nat.le_refl _)];rfl
    have HUl:Hid (UpOk u∧∀x,rootF u x=labF es x):=hide (by have h:=HUf.out;unfold UpF at h;rw[hLf] at h;exact h)
    have c0:wr.cell? ⟨w.heap.size,0,none⟩=some (.int .i64 (M:Int)):=cell_of_row _ _ 0 _ _ _ HGr.out
    have hmk:=mkL_run wr M (by omega)
    obtain⟨x,hx⟩:∃x,wr.alloc (.cells (intsV (List.replicate M 0)).toArray 2)=x:=⟨_,rfl⟩
    rw[hx] at hmk
    have hbx:Below wr.heap.size wr x:=by rw[←hx];exact (Below.refl _ _).alloc (Nat.le_refl _) _
    have HX0:=hide (show RowI x wr.heap.size 2 (labK es M 0) by rw[←hx,labK_zero];exact heap_alloc_last _ _)
    obtain⟨D,hD⟩:∃D,wr.heap.size=D:=⟨_,rfl⟩
    have HBx:=hide (HBr.out.trans (hbx.mono hsw))
    rw[hD] at hbx HX0 hmk
    have hgd:G<D:=by have:=HM.out.row.lt;omega
    have HMx:Hid (UpM x Bu Br G M u):=hide ⟨(hbx.cell (p:=⟨Bu,0,none⟩) (by show Bu<D;omega)).trans HM.out.cu,(hbx.cell (p:=⟨Br,0,none⟩) (by show Br<D;omega)).trans HM.out.cr,HM.out.row.below hbx hgd,HM.out.len⟩
    have hlux:Bu<D:=by omega
    have hlrx:Br<D:=by omega
    have hwD:w.heap.size<D:=by have:=lt_of_block HGr.out;omega
    have HXx:=hide (And.intro hx hD)
    clear hx hbx HBr HGr HM HUf hLf hlu hlr hsw hlt hD
    go_upto_region 19 with fail
    clear hmk c0
    go_wp2
    go_loopw [62] (fun v62 wr=>∃(k:Nat) (u:List Nat),k≤M∧v62 = .int .i64 (k:Int)∧Hid (RowI wr D 2 (labK es M k))∧Hid (UpM wr Bu Br G M u)∧Hid (UpOk u∧∀x,rootF u x=labF es x)∧Hid (Below w.heap.size w wr)) (fun v62 _=>M-(intOf v62).toNat)
    case atStart=>exact⟨0,u,by omega,rfl,HX0,HMx,HUl,HBx⟩
    case round=>
     clear HX0 HMx HUl HBx
     obtain⟨k,u,hk,rfl,HX,HM,HU,HBr⟩:=hrel
     by_cases hlt:k<M
     ·have hI0:(0:Int)≤(k:Int):=by omega
      have hI1:(k:Int)<(M:Int):=by omega
      have hc:=root_any Bu Br G M hBuG hBrG hM512 k wr u k (Nat.le_refl _) hlt HM.out HU.out.1
      have HC:=hide hc
      have q0:=HM.out.cr
      clear hc
      go_wp2_with fail
      refine HC.out.mono ?_
      rintro e y1 ⟨rfl,u1,hs1,hat1,hrow1,hf1⟩
      rw[HU.out.2]
      have hDG:D≠G:=by omega
      have hX1:=HX.out.block (hf1.block D hDG hDG)
      have gk:=hX1.cell (i:=k) (by rw[labK_len _ hk];exact hlt)
      have gf:=hX1.frozen k
      have hX2:=hX1.set k (labF es k:Int)
      rw[labK_set es hlt] at hX2
      have hf2:FarS D D y1 (y1.setCell ⟨D,k,none⟩ (.int .i64 (labF es k:Int))):=(FarS.refl D D y1).set (p:=⟨D,k,none⟩) (.inl rfl) _
      have hm1:=HM.out.far hf1 hBuG hBrG hrow1 hs1.1
      have HM2:Hid (UpM (y1.setCell ⟨D,k,none⟩ (.int .i64 (labF es k:Int))) Bu Br G M u1):=hide ⟨(World.cell?_of_block (hf2.block Bu (by omega) (by omega))).trans hm1.cu,(World.cell?_of_block (hf2.block Br (by omega) (by omega))).trans hm1.cr,hm1.row.block (hf2.block G (by omega) (by omega)),hm1.len⟩
      have HX2:=hide hX2
      have HU2:Hid (UpOk u1∧∀x,rootF u1 x=labF es x):=hide ⟨hs1.2.1,fun x=>(hs1.2.2 x).trans (HU.out.2 x)⟩
      have HB2:=hide ((HBr.out.trans (hf1.below (by omega) (by omega))).trans (hf2.below (by omega) (by omega)))
      clear hX1 hX2 hf1 hf2 hm1 hs1 hat1 hrow1 HX HM HU HBr HC q0
      go_wp2
      go_roundw
      case rel=>exact⟨k+1,u1,by omega,by go_num,HX2,HM2,HU2,HB2⟩
      case measure=>simp[intOf];omega
     obtain rfl:M=k:=by omega
     rw[labK_full] at HX
     have hll:(labI es M).length=M:=by simp[labI]
     have HFin:Hid (LPost w 0 (labI es M) (.returned (.tuple #[.slice (some ⟨D,0,none⟩) M M,.int .i64 0])) wr):=hide ⟨some ⟨D,0,none⟩,M,by rw[hll],by rw[hll];exact HX.out.own (by omega) hll (by unfold maxLen;omega),HBr.out⟩
     go_wp2
     refine bodyPost_ret (v:=.tuple #[.slice (some ⟨D,0,none⟩) M M,.int .i64 0]) (by simp[results,Tryz.results12,go_sem]) rfl ?_
     rw[HRes.out,HCk.out]
     exact HFin.out
 have hne:¬checkF V es=0:=hchk
 have HRes:Hid (labL V es=[]):=hide (by unfold labL;rw[if_neg hchk])
 have HFin:Hid (LPost w (checkF V es) [] (.returned (.tuple #[.slice none 0 0,.int .i64 (checkF V es)])) y):=hide ⟨none,0,rfl,World.ownsRow_nil _ _ _ _,HBy.out⟩
 clear hchk
 obtain⟨k,hk⟩:∃k,checkF V es=k:=⟨_,rfl⟩
 rw[hk] at hne HFin ⊢
 have HK:=hide hk
 clear hk
 go_wp2
 refine bodyPost_ret (v:=.tuple #[.slice none 0 0,.int .i64 k]) (by simp[results,Tryz.results12,go_sem]) rfl ?_
 rw[HRes.out,HK.out]
 exact HFin.out
end Go.Proofs.YtgbahnlgblahpaaGreat

/- Lemmas: Fwr, Frz, Frw, Sgp, Fou, Sgl. -/
import Derived.Lib.Hide
import Derived.WalkSpells
import Derived.WalkLawsBesides
import Derived.WalkMore
import Derived.Laws.CopyOwn
import Derived.Lib.SliceRun
import Derived.BigQuiet
import Derived.Deep.RegionLaw
import Derived.Test.YtpojjmbalgmcoaaGreatStWw8
import Derived.Test.YtpojjmbalgmcoaaGreatStWw15
set_option linter.unusedVariables false
set_option linter.unusedSimpArgs false
set_option maxRecDepth 100000
set_option maxHeartbeats 16000000
namespace Go.Proofs.YtpojjmbalgmcoaaGreat
open Go.RowKit
structure Besides (g:Nat) (w w':World):Prop where
 os:w'.os=w.os
 tape:w'.tape=w.tape
 output:w'.output=w.output
 size:w.heap.size≤w'.heap.size
 block:∀k,k<w.heap.size→k≠g→w'.heap[k]?=w.heap[k]?
theorem Besides.refl (g:Nat) (w:World):Besides g w w:=⟨rfl,rfl,rfl,Nat.le_refl _,fun _ _ _=>rfl⟩
theorem Besides.trans {g:Nat} {a b c:World} (h:Besides g a b) (k:Besides g b c):Besides g a c:=
 ⟨k.os.trans h.os,k.tape.trans h.tape,k.output.trans h.output,Nat.le_trans h.size k.size,fun i hi hg=>(k.block i (Nat.lt_of_lt_of_le hi h.size) hg).trans (h.block i hi hg)⟩
theorem Besides.of_below {g:Nat} {a b:World} (h:Below a.heap.size a b):Besides g a b:=⟨h.os,h.tape,h.output,h.size,fun k hk _=>h.block k hk⟩
theorem Besides.below {g B:Nat} {a b:World} (h:Besides g a b) (h1:B≤g) (h2:B≤a.heap.size):Below B a b:=⟨h.os,h.tape,h.output,h.size,fun k hk=>h.block k (Nat.lt_of_lt_of_le hk h2) (by omega)⟩
theorem Besides.cell {g:Nat} {a b:World} (h:Besides g a b) {p:Addr} (h1:p.block<a.heap.size) (h2:p.block≠g):b.cell? p=a.cell? p:=World.cell?_of_block (h.block _ h1 h2)
theorem Besides.setCell {g:Nat} {a:World} {o:Nat} (v:Value):Besides g a (a.setCell ⟨g,o,none⟩ v):=by
 have h:=(Below.refl g a).setCell (p:=⟨g,o,none⟩) (Nat.le_refl _) v
 exact⟨h.os,h.tape,h.output,h.size,fun k _ hk=>heap_setCell_other _ _ _ _ hk⟩
theorem Besides.alloc {g:Nat} {a:World} (o:Obj):Besides g a (a.alloc o):=.of_below ((Below.refl _ _).alloc (Nat.le_refl _) _)
def Rg (w:World) (g:Nat) (A:Option Addr) (xs:List Value):Prop:=
 xs≠[]→∃b off,A=some ⟨b,off,none⟩∧g<b∧b<w.heap.size∧∀j u,xs[j]?=some u→w.cell? ⟨b,off+j,none⟩=some u
theorem Rg.rd {w:World} {g:Nat} {A:Option Addr} {xs:List Value} (h:Rg w g A xs):Rd w w.heap.size A xs:=fun hn=>by
 obtain⟨b,off,e,_,hb,hc⟩:=h hn
 exact⟨b,off,e,hb,hc⟩
theorem Rg.besides {w w':World} {g lo:Nat} {A:Option Addr} {xs:List Value} (h:Rg w lo A xs) (hb:Besides g w w') (hgl:g≤lo):Rg w' lo A xs:=fun hn=>by
 obtain⟨b,off,e,hg,hlt,hc⟩:=h hn
 exact⟨b,off,e,hg,Nat.lt_of_lt_of_le hlt hb.size,fun j u hu=>(hb.cell (p:=⟨b,off+j,none⟩) hlt (by show b≠g;omega)).trans (hc j u hu)⟩
theorem Rg.of_rd {w:World} {g b:Nat} {xs:List Value} (h:Rd w w.heap.size (some ⟨b,0,none⟩) xs) (hg:g<b):Rg w g (some ⟨b,0,none⟩) xs:=fun hn=>by
 obtain⟨b',off,e,hb,hc⟩:=h hn
 injection e with e
 injection e with e1 e2
 subst e1 e2
 exact⟨b,0,rfl,hg,hb,hc⟩
abbrev Piece:=Option Addr×List UInt8×Nat
def Chain (w:World) (g:Nat):Option Addr→List Piece→Prop
 | q,[]=>q=none
 | q,(A,bs,c) :: ps=>∃b q',q=some ⟨b,0,none⟩∧g<b∧b<w.heap.size∧w.cell? ⟨b,0,none⟩=some (.slice A bs.length c)∧w.cell? ⟨b,1,none⟩=some (.pointer q')∧Rg w g A (u8s bs)∧Chain w g q' ps
theorem Chain.besides {w w':World} {g lo:Nat} (hb:Besides g w w') (hgl:g≤lo):∀{q:Option Addr} {ps:List Piece},Chain w lo q ps→Chain w' lo q ps
 | _,[],h=>h
 | _,(_,_,_) :: _,⟨b,q',e,hg,hlt,h0,h1,hr,ht⟩=>⟨b,q',e,hg,Nat.lt_of_lt_of_le hlt hb.size,(hb.cell (p:=⟨b,0,none⟩) hlt (by show b≠g;omega)).trans h0,(hb.cell (p:=⟨b,1,none⟩) hlt (by show b≠g;omega)).trans h1,hr.besides hb hgl,Chain.besides hb hgl ht⟩
def outOf:List Piece→List UInt8
 | []=>[]
 | (_,bs,_) :: ps=>outOf ps ++ bs
def Wr (w:World) (g lo:Nat) (ps:List Piece):Prop:=
 g≤lo∧lo<w.heap.size∧∃q,w.heap[g]?=some (.cells #[.pointer q,.int .i64 ((outOf ps).length:Nat)] 72)∧Chain w lo q ps
theorem Wr.other {w w':World} {g lo h:Nat} {ps:List Piece} (hw:Wr w g lo ps) (hb:Besides h w w') (hg:g≠h) (hl:h≤lo):Wr w' g lo ps:=by
 obtain⟨h1,h2,q,h,hc⟩:=hw
 exact⟨h1,Nat.lt_of_lt_of_le h2 hb.size,q,(hb.block g (by omega) hg).trans h,hc.besides hb hl⟩
theorem Chain.below {w w':World} {lo:Nat} (hb:Below w.heap.size w w'):∀{q:Option Addr} {ps:List Piece},Chain w lo q ps→Chain w' lo q ps
 | _,[],h=>h
 | _,(_,_,_) :: _,⟨b,q',e,hg,hlt,h0,h1,hr,ht⟩=>⟨b,q',e,hg,Nat.lt_of_lt_of_le hlt hb.size,(hb.cell (p:=⟨b,0,none⟩) hlt).trans h0,(hb.cell (p:=⟨b,1,none⟩) hlt).trans h1,fun hn=>by
  obtain⟨b1,off,e1,hg1,hlt1,hc⟩:=hr hn
  exact⟨b1,off,e1,hg1,Nat.lt_of_lt_of_le hlt1 hb.size,fun j u hu=>(hb.cell (p:=⟨b1,off+j,none⟩) hlt1).trans (hc j u hu)⟩,Chain.below hb ht⟩
theorem Wr.below {w w':World} {g lo:Nat} {ps:List Piece} (h:Wr w g lo ps) (hb:Below w.heap.size w w'):Wr w' g lo ps:=by
 obtain⟨h1,h2,q,h,hc⟩:=h
 exact⟨h1,Nat.lt_of_lt_of_le h2 hb.size,q,(hb.block g (by omega)).trans h,hc.below hb⟩
theorem Wr.new (w:World):Wr (w.alloc (.cells #[.pointer none,.int .i64 0] 72)) w.heap.size w.heap.size []:=⟨Nat.le_refl _,by simp,none,heap_alloc_last w _,rfl⟩
theorem put_any (w:World) (g lo:Nat) (ps:List Piece) (A:Option Addr) (bs:List UInt8) (c:Nat) (hW:Wr w g lo ps) (hR:Rg w lo A (u8s bs)) (hl:(outOf ps).length+bs.length≤4611686018427387904) :
  Calls Tryz.prog 57 #[.pointer (some ⟨g,0,none⟩),.slice A bs.length c] w fun e w'=>e = .returned (.tuple #[])∧Wr w' g lo ((A,bs,c) :: ps)∧Besides g w w':=by
 obtain⟨hgl,hll,q,hg,hc⟩:=hW
 have hlt:g<w.heap.size:=by omega
 have c0:=cell_of_row _ _ 0 _ _ _ hg
 have c1:=cell_of_row _ _ 1 _ _ _ hg
 have f0:=frozen_of_row _ _ 0 _ _ hg
 have f1:=frozen_of_row _ _ 1 _ _ hg
 have HG:=hide hg
 have HC:=hide hc
 have HR:=hide hR
 clear hg hc hR
 go_enter Tryz.func57,Tryz.ntmps57
 go_wp2
 go_end0
 refine⟨rfl,⟨hgl,by simp;omega,some ⟨w.heap.size,0,none⟩,?_,w.heap.size,q,rfl,hll,by simp,?_,?_,?_,?_⟩,?_⟩
 ·have e1:=heap_setCell_same _ _ 1 _ _ (.int .i64 (((outOf ps).length:Int)+(bs.length:Int))) (heap_setCell_same _ _ 0 _ _ (.pointer (some ⟨w.heap.size,0,none⟩)) HG.out)
  refine (Below.heap_alloc _ _ _ (by simpa using hlt)).trans (e1.trans ?_)
  simp[outOf]
 ·have hs:((w.setCell ⟨g,0,none⟩ (.pointer (some ⟨w.heap.size,0,none⟩))).setCell ⟨g,1,none⟩ (.int .i64 (((outOf ps).length:Int)+(bs.length:Int)))).heap.size=w.heap.size:=by simp
  have h:=World.cell?_alloc_new (w:=(w.setCell ⟨g,0,none⟩ (.pointer (some ⟨w.heap.size,0,none⟩))).setCell ⟨g,1,none⟩ (.int .i64 (((outOf ps).length:Int)+(bs.length:Int)))) #[.slice A bs.length c,.pointer q] 119 0
  rw[hs] at h
  exact h
 ·have hs:((w.setCell ⟨g,0,none⟩ (.pointer (some ⟨w.heap.size,0,none⟩))).setCell ⟨g,1,none⟩ (.int .i64 (((outOf ps).length:Int)+(bs.length:Int)))).heap.size=w.heap.size:=by simp
  have h:=World.cell?_alloc_new (w:=(w.setCell ⟨g,0,none⟩ (.pointer (some ⟨w.heap.size,0,none⟩))).setCell ⟨g,1,none⟩ (.int .i64 (((outOf ps).length:Int)+(bs.length:Int)))) #[.slice A bs.length c,.pointer q] 119 1
  rw[hs] at h
  exact h
 ·exact HR.out.besides (((Besides.setCell _).trans (Besides.setCell _)).trans (Besides.alloc _)) hgl
 ·exact HC.out.besides (((Besides.setCell _).trans (Besides.setCell _)).trans (Besides.alloc _)) hgl
 exact ((Besides.setCell _).trans (Besides.setCell _)).trans (Besides.alloc _)
def Wo (w:World) (g lo:Nat) (out:List UInt8):Prop:=∃ps,outOf ps=out∧Wr w g lo ps
theorem Wo.lt {w:World} {g lo:Nat} {out:List UInt8} (h:Wo w g lo out):lo<w.heap.size:=by obtain⟨_,_,_,h,_⟩:=h;exact h
theorem Wo.le {w:World} {g lo:Nat} {out:List UInt8} (h:Wo w g lo out):g≤lo:=by obtain⟨_,_,h,_⟩:=h;exact h
theorem Wo.below {w w':World} {g lo:Nat} {out:List UInt8} (h:Wo w g lo out) (hb:Below w.heap.size w w'):Wo w' g lo out:=by obtain⟨ps,e,h⟩:=h;exact⟨ps,e,h.below hb⟩
theorem Wo.other {w w':World} {g lo h:Nat} {out:List UInt8} (hw:Wo w g lo out) (hb:Besides h w w') (hg:g≠h) (hl:h≤lo):Wo w' g lo out:=by obtain⟨ps,e,hw⟩:=hw;exact⟨ps,e,hw.other hb hg hl⟩
theorem Wo.new (w:World):Wo (w.alloc (.cells #[.pointer none,.int .i64 0] 72)) w.heap.size w.heap.size []:=⟨[],rfl,.new w⟩
theorem clone_any (w:World) (A:Option Addr) (bs:List UInt8) (c:Nat) (hR:Rd w w.heap.size A (u8s bs)) (hl:bs.length≤140737488351232) :
  Calls Tryz.prog 75 #[.slice A bs.length c] w fun e w'=>(∃A' c',e = .returned (.slice A' bs.length c')∧w'.ownsRow w.heap.size 5 1 (.slice A' bs.length c') bs.length (u8s bs))∧Below w.heap.size w w':=by
 obtain⟨i0,hi0,hz0,hz1,hz2⟩:=info_parts (show (Tryz.prog.info? 5).map (fun i=>(i.zero,i.size,i.bytes))=some (some (.int .u8 0),1,1) by kernel_rfl)
 go_enter Tryz.func75,Tryz.ntmps75
 have hq:=fun (w:World)=>Lib.run_eql_slice_nil (P:=Tryz.prog) w 45 5 A bs.length c 0 0 Tryz.underlying45
 cases A with
 | none=>
  have hn:bs=[]:=by
   rcases bs with _ | ⟨x,l⟩
   ·rfl
   obtain⟨b,o,e,_⟩:=hR (by simp[u8s])
   cases e
  subst hn
  have hq:=fun (w:World)=>Lib.run_eql_slice_nil (P:=Tryz.prog) w 45 5 none 0 c 0 0 Tryz.underlying45
  go_wp2
  go_ret
  exact⟨⟨none,0,rfl,World.ownsRow_nil _ _ _ _⟩,Below.refl _ _⟩
 | some p=>
  have hown:(w.alloc (.cells #[] 5)).ownsRow w.heap.size 5 1 (.slice (some ⟨w.heap.size,0,none⟩) 0 0) 0 []:=⟨rfl,.inr ⟨w.heap.size,0,#[],rfl,Nat.le_refl _,heap_alloc_last w _,Nat.le_refl _,by decide,rfl,rfl⟩⟩
  have hR1:=hR.alloc (Nat.le_refl _) (.cells #[] 5)
  go_wp2_with (at_builtin;refine wpList_app rfl (.tmp 5) (.tmp 6) 45 rfl w.heap.size 5 i0 (.int .u8 0) 1 1 Tryz.underlying45 hi0 hz0 hz1 hz2 rfl (by decide) _ 0 _ rfl hown w.heap.size (some p) bs.length c (u8s bs) rfl (by rw[u8s_len];omega) hR1 (u8s_one bs) (by unfold maxLen;omega) (by omega) (by simp) ?_;intro A2 c2 w2 hown2 hg2 hat2)
  rw[Nat.zero_add,List.nil_append] at hown2
  have hb2:=app_below (((Below.refl _ w).alloc (Nat.le_refl _) (.cells #[] 5))) hown hg2 (by simp) (Nat.le_refl _)
  clear hg2 hat2
  go_wp2
  go_ret
  exact⟨⟨A2,c2,rfl,hown2⟩,hb2⟩
theorem put_lenA (w:World) (g:Nat) {lo:Nat} (out:List UInt8) (A:Option Addr) (bs:List UInt8) (n:Nat) (hn:bs.length=n) (c:Nat) (hW:Wo w g lo out) (hR:Rg w lo A (u8s bs)) (hl:out.length+n≤4611686018427387904) :
  Calls Tryz.prog 57 #[.pointer (some ⟨g,0,none⟩),.slice A n c] w fun e w'=>e = .returned (.tuple #[])∧Wo w' g lo (out ++ bs)∧Besides g w w':=by
 subst hn
 obtain⟨ps,rfl,hW⟩:=hW
 refine (put_any w g lo ps A bs c hW hR hl).mono ?_
 rintro e w' ⟨rfl,h,hb⟩
 exact⟨rfl,⟨_,rfl,h⟩,hb⟩
theorem put8 (w:World) (g:Nat) {lo:Nat} (out:List UInt8) (m:Nat) (hm:m<256) (hW:Wo w g lo out) (hl:out.length≤1000000000000) :
  Calls Tryz.prog 30 #[.pointer (some ⟨g,0,none⟩),.int .u8 m] w fun e w'=>e = .returned (.tuple #[])∧Wo w' g lo (out ++ be 1 m)∧Besides g w w':=by
 go_enter Tryz.func30,Tryz.ntmps30
 have hlt:=hW.lt
 go_wp2_with fail
 refine (digits8 m hm _).mono ?_
 rintro e w1 ⟨rfl,hr,hlt1,hb1⟩
 have hR:=Rg.of_rd hr (g:=lo) (by omega)
 have hW1:=hW.below hb1
 go_wp2_with fail
 refine (put_lenA _ g out _ (be 1 m) 1 (be_len _ _) _ hW1 hR (by omega)).mono ?_
 rintro e w2 ⟨rfl,hW2,hb2⟩
 go_wp2
 go_end0
 exact⟨rfl,hW2,(Besides.of_below hb1).trans hb2⟩
theorem put16 (w:World) (g:Nat) {lo:Nat} (out:List UInt8) (m:Nat) (hm:m<65536) (hW:Wo w g lo out) (hl:out.length≤1000000000000) :
  Calls Tryz.prog 28 #[.pointer (some ⟨g,0,none⟩),.int .u16 m] w fun e w'=>e = .returned (.tuple #[])∧Wo w' g lo (out ++ be 2 m)∧Besides g w w':=by
 go_enter Tryz.func28,Tryz.ntmps28
 have hlt:=hW.lt
 go_wp2_with fail
 refine (digits16 m hm _).mono ?_
 rintro e w1 ⟨rfl,hr,hlt1,hb1⟩
 have hR:=Rg.of_rd hr (g:=lo) (by omega)
 have hW1:=hW.below hb1
 go_wp2_with fail
 refine (put_lenA _ g out _ (be 2 m) 2 (be_len _ _) _ hW1 hR (by omega)).mono ?_
 rintro e w2 ⟨rfl,hW2,hb2⟩
 go_wp2
 go_end0
 exact⟨rfl,hW2,(Besides.of_below hb1).trans hb2⟩
theorem put32 (w:World) (g:Nat) {lo:Nat} (out:List UInt8) (m:Nat) (hm:m<4294967296) (hW:Wo w g lo out) (hl:out.length≤1000000000000) :
  Calls Tryz.prog 27 #[.pointer (some ⟨g,0,none⟩),.int .u32 m] w fun e w'=>e = .returned (.tuple #[])∧Wo w' g lo (out ++ be 4 m)∧Besides g w w':=by
 go_enter Tryz.func27,Tryz.ntmps27
 have hlt:=hW.lt
 go_wp2_with fail
 refine (digits32 m hm _).mono ?_
 rintro e w1 ⟨rfl,hr,hlt1,hb1⟩
 have hR:=Rg.of_rd hr (g:=lo) (by omega)
 have hW1:=hW.below hb1
 go_wp2_with fail
 refine (put_lenA _ g out _ (be 4 m) 4 (be_len _ _) _ hW1 hR (by omega)).mono ?_
 rintro e w2 ⟨rfl,hW2,hb2⟩
 go_wp2
 go_end0
 exact⟨rfl,hW2,(Besides.of_below hb1).trans hb2⟩
theorem put64 (w:World) (g:Nat) {lo:Nat} (out:List UInt8) (m:Nat) (hm:m<18446744073709551616) (hW:Wo w g lo out) (hl:out.length≤1000000000000) :
  Calls Tryz.prog 29 #[.pointer (some ⟨g,0,none⟩),.int .u64 m] w fun e w'=>e = .returned (.tuple #[])∧Wo w' g lo (out ++ be 8 m)∧Besides g w w':=by
 go_enter Tryz.func29,Tryz.ntmps29
 have hlt:=hW.lt
 go_wp2_with fail
 refine (digits64 m hm _).mono ?_
 rintro e w1 ⟨rfl,hr,hlt1,hb1⟩
 have hR:=Rg.of_rd hr (g:=lo) (by omega)
 have hW1:=hW.below hb1
 go_wp2_with fail
 refine (put_lenA _ g out _ (be 8 m) 8 (be_len _ _) _ hW1 hR (by omega)).mono ?_
 rintro e w2 ⟨rfl,hW2,hb2⟩
 go_wp2
 go_end0
 exact⟨rfl,hW2,(Besides.of_below hb1).trans hb2⟩
end Go.Proofs.YtpojjmbalgmcoaaGreat
namespace Go.Proofs.YtpojjmbalgmcoaaGreat.rz
open Go.RowKit
def Rn (w:World) (g:Nat) (A:Option Addr) (xs:List Value):Prop:=
 xs≠[]→∃b off,A=some ⟨b,off,none⟩∧b≠g∧b<w.heap.size∧∀j u,xs[j]?=some u→w.cell? ⟨b,off+j,none⟩=some u
theorem Rn.nil_ {w:World} {g:Nat} {A:Option Addr}:Rn w g A []:=fun h=>absurd rfl h
theorem Rn.rd {w:World} {g:Nat} {A:Option Addr} {xs:List Value} (h:Rn w g A xs):Rd w w.heap.size A xs:=fun hn=>by
 obtain⟨b,off,e,_,hb,hc⟩:=h hn
 exact⟨b,off,e,hb,hc⟩
theorem Rn.besides {w w':World} {g:Nat} {A:Option Addr} {xs:List Value} (h:Rn w g A xs) (hb:Besides g w w'):Rn w' g A xs:=fun hn=>by
 obtain⟨b,off,e,hg,hlt,hc⟩:=h hn
 exact⟨b,off,e,hg,Nat.lt_of_lt_of_le hlt hb.size,fun j u hu=>(hb.cell (p:=⟨b,off+j,none⟩) hlt hg).trans (hc j u hu)⟩
theorem Rn.of_rd {w:World} {g B:Nat} {A:Option Addr} {xs:List Value} (h:Rd w B A xs) (hB:B≤g) (hg:g<w.heap.size):Rn w g A xs:=fun hn=>by
 obtain⟨b,off,e,hb,hc⟩:=h hn
 exact⟨b,off,e,by omega,by omega,hc⟩
theorem Rn.cut {w:World} {g:Nat} {b off:Nat} {xs:List Value} (h:Rn w g (some ⟨b,off,none⟩) xs) (k n:Nat):Rn w g (some ⟨b,off+k,none⟩) ((xs.drop k).take n):=fun hn=>by
 obtain⟨b',off',e,hg,hlt,hc⟩:=h (fun e=>by subst e;simp at hn)
 injection e with e
 injection e with e1 e2
 subst e1 e2
 refine⟨b,off+k,rfl,hg,hlt,fun j u hu=>?_⟩
 rw[List.getElem?_take] at hu
 split at hu
 ·rw[List.getElem?_drop] at hu
  rw[Nat.add_assoc]
  exact hc _ _ hu
 cases hu
def Rz (A:Option Addr) (c:Nat) (T:TypeId) (w:World) (g:Nat) (bs:List UInt8) (s:Nat×Bool):Prop:=
 w.heap[g]?=some (.cells #[.slice A bs.length c,.int .i64 (s.1:Nat),.bool s.2] T)∧Rn w g A (u8s bs)∧bs.length≤c∧bs.length≤140737488351232∧s.1≤bs.length
section
variable {A0:Option Addr} {k0:Nat}
theorem Rz.lt {T:TypeId} {w:World} {g:Nat} {bs:List UInt8} {s:Nat×Bool} (h:Rz A0 k0 T w g bs s):g<w.heap.size:=by
 obtain⟨h,_⟩:=h
 exact lt_of_block h
theorem Rz.below {T:TypeId} {w w':World} {g:Nat} {bs:List UInt8} {s:Nat×Bool} (h:Rz A0 k0 T w g bs s) (hb:Below w.heap.size w w'):Rz A0 k0 T w' g bs s:=by
 have hlt:=h.lt
 obtain⟨h,hr,h3⟩:=h
 exact⟨(hb.block g hlt).trans h,hr.besides (.of_below hb),h3⟩
def nx (bs:List UInt8) (s:Nat×Bool) (n:Int):List UInt8×(Nat×Bool):=
 if s.2=true∨n<0∨(bs.length:Int)-(s.1:Int)<n then ([],(bs.length,true)) else ((bs.drop s.1).take n.toNat,(s.1+n.toNat,false))
theorem open_any (w:World) (A:Option Addr) (bs:List UInt8) (c:Nat) (hR:Rd w w.heap.size A (u8s bs)) (hl:bs.length≤1000000000000) :
  Calls Tryz.prog 44 #[.slice A bs.length c] w fun e w'=>(∃r,e = .returned (.pointer (some ⟨r,0,none⟩))∧w.heap.size≤r∧∃A0 k0,Rz A0 k0 148 w' r bs (0,false))∧Below w.heap.size w w':=by
 go_enter Tryz.func44,Tryz.ntmps44
 go_wp2_with fail
 refine (clone_any _ A bs c hR (by omega)).mono ?_
 rintro e w1 ⟨⟨A',c',rfl,hown⟩,hb1⟩
 go_wp2
 go_ret
 have hr1:=(Rd.of_own hown).alloc (Nat.le_refl _) (.cells #[.slice A' bs.length c',.int .i64 0,.bool false] 148)
 exact⟨⟨w1.heap.size,rfl,hb1.size,A',c',heap_alloc_last w1 _,Rn.of_rd hr1 (Nat.le_refl _) (by simp),own_cap hown,by omega,Nat.zero_le _⟩,hb1.alloc hb1.size _⟩
theorem left_any (w:World) (r:Nat) (bs:List UInt8) (s:Nat×Bool) (hr:Rz A0 k0 148 w r bs s) :
  Calls Tryz.prog 50 #[.pointer (some ⟨r,0,none⟩)] w fun e w'=>e = .returned (.int .i64 ((bs.length:Int)-(s.1:Int)))∧Below w.heap.size w w':=by
 obtain⟨hg,hR,h1,h2,h3⟩:=hr
 obtain⟨A,rfl⟩:∃A,A=A0:=⟨_,rfl⟩
 obtain⟨c,rfl⟩:∃c,c=k0:=⟨_,rfl⟩
 obtain⟨c0,c1⟩:=zr2 hg
 have hw:IntKind.i64.wrap ((bs.length:Int)-(s.1:Int))=(bs.length:Int)-(s.1:Int):=IntWalk.i64_in _ (by omega)
 go_enter Tryz.func50,Tryz.ntmps50
 go_wp2
 go_quiet (fail)
 go_wp2
 go_ret
 exact⟨rfl,below_drewN (Below.refl _ _) _⟩
theorem bad_any (w:World) (r:Nat) (bs:List UInt8) (s:Nat×Bool) (hr:Rz A0 k0 148 w r bs s) :
  Calls Tryz.prog 49 #[.pointer (some ⟨r,0,none⟩)] w fun e w'=>e = .returned (.bool s.2)∧w=w':=by
 obtain⟨hg,hR,h1,h2,h3⟩:=hr
 obtain⟨A,rfl⟩:∃A,A=A0:=⟨_,rfl⟩
 obtain⟨c,rfl⟩:∃c,c=k0:=⟨_,rfl⟩
 have c2:w.cell? ⟨r,2,none⟩=some (.bool s.2):=cell_of_row _ _ 2 _ _ _ hg
 go_enter Tryz.func49,Tryz.ntmps49
 go_wp2
 go_ret
 exact⟨rfl,rfl⟩
def NextPost (A0:Option Addr) (k0:Nat) (T:TypeId) (w:World) (r:Nat) (bs:List UInt8) (s:Nat×Bool) (n:Int) (e:Ending) (w':World):Prop:=
 (∃A' c',e = .returned (.slice A' (nx bs s n).1.length c')∧Rn w' r A' (u8s (nx bs s n).1)∧(nx bs s n).1.length≤c')∧Rz A0 k0 T w' r bs (nx bs s n).2∧Besides r w w'
theorem fall_post {T:TypeId} {w:World} {r:Nat} {bs:List UInt8} {s:Nat×Bool} {n:Int} {A:Option Addr} {c:Nat} (hg:w.heap[r]?=some (.cells #[.slice A bs.length c,.int .i64 (s.1:Nat),.bool s.2] T)) (hR:Rn w r A (u8s bs)) (h1:bs.length≤c) (h2:bs.length≤140737488351232)
  (hn:s.2=true∨n<0∨(bs.length:Int)-(s.1:Int)<n):NextPost A c T w r bs s n (.returned (.slice none 0 0)) ((w.setCell ⟨r,2,none⟩ (.bool true)).setCell ⟨r,1,none⟩ (.int .i64 (bs.length:Nat))):=by
 have hb:Besides r w ((w.setCell ⟨r,2,none⟩ (.bool true)).setCell ⟨r,1,none⟩ (.int .i64 (bs.length:Nat))):=(Besides.setCell _).trans (Besides.setCell _)
 unfold NextPost nx
 rw[if_pos hn]
 refine⟨⟨none,0,rfl,Rn.nil_,Nat.le_refl _⟩,⟨?_,hR.besides hb,h1,h2,Nat.le_refl _⟩,hb⟩
 have e1:=heap_setCell_same _ _ 1 _ _ (.int .i64 (bs.length:Nat)) (heap_setCell_same _ _ 2 _ _ (.bool true) hg)
 exact e1
theorem fall_post' {T:TypeId} {w:World} {r:Nat} {bs:List UInt8} {s:Nat×Bool} {n:Int} {w1 w':World} {e:Ending} (hb:Below w.heap.size w w1) (hr:r<w.heap.size) (h:NextPost A0 k0 T w1 r bs s n e w'):NextPost A0 k0 T w r bs s n e w':=
 ⟨h.1,h.2.1,(Besides.of_below hb).trans h.2.2⟩
theorem ok_post {T:TypeId} {w w1 w2:World} {r:Nat} {bs:List UInt8} {at' k:Nat} {A:Option Addr} {c:Nat} (hk:at'+k≤bs.length) (hb1:Below w.heap.size w w1) (hb2:Besides r w1 w2)
  (hg:w2.heap[r]?=some (.cells #[.slice A bs.length c,.int .i64 ((at'+k:Nat):Int),.bool false] T)) (hR:Rn w2 r A (u8s bs)) (h1:bs.length≤c) (h2:bs.length≤140737488351232) (A':Option Addr) (c':Nat)
  (hA:∀b off,A=some ⟨b,off,none⟩→0<k→A'=some ⟨b,off+at',none⟩) (m:Nat) (hc':k≤c'):NextPost A c T w r bs (at',false) (k:Int) (.returned (.slice A' k c')) (w2.drewN m):=by
 have hb:Besides r w2 (w2.drewN m):=.of_below (below_drewN (Below.refl _ _) m)
 have hne:¬((at',false).2=true∨(k:Int)<0∨(bs.length:Int)-((at',false).1:Int)<(k:Int)):=by
  dsimp only
  rintro (h | h | h)
  ·cases h
  ·omega
  omega
 unfold NextPost nx
 rw[if_neg hne]
 have hl:((bs.drop at').take k).length=k:=by rw[List.length_take,List.length_drop];omega
 refine⟨⟨A',c',?_,?_,?_⟩,⟨hg,hR.besides hb,h1,h2,hk⟩,((Besides.of_below hb1).trans hb2).trans hb⟩
 ·show _=Ending.returned (.slice A' ((bs.drop at').take k).length c')
  rw[hl]
 ·show Rn _ r A' (u8s ((bs.drop at').take k))
  intro hn
  have hk0:0<k:=by
   rcases Nat.eq_zero_or_pos k with h | h
   ·subst h;simp[u8s] at hn
   exact h
  obtain⟨b,off,e,_⟩:=hR (fun e=>by
   have:bs=[]:=by simpa [u8s] using e
   subst this
   simp at hk
   omega)
  rw[hA b off e hk0]
  rw[e] at hR
  rw[←u8s_take,←u8s_drop] at hn ⊢
  exact ((hR.besides hb).cut at' k) hn
 show ((bs.drop at').take k).length≤c'
 rw[hl];exact hc'
theorem ok_post2 {T:TypeId} {w w1 w2:World} {r:Nat} {bs:List UInt8} {at' k:Nat} {A:Option Addr} {c c0:Nat} (hcc:c=c0) (hk:at'+k≤bs.length) (hb1:Below w.heap.size w w1) (hb2:Besides r w1 w2)
  (hg:w2.heap[r]?=some (.cells #[.slice A bs.length c,.int .i64 ((at'+k:Nat):Int),.bool false] T)) (hR:Rn w2 r A (u8s bs)) (h1:bs.length≤c) (h2:bs.length≤140737488351232) (A':Option Addr) (c':Nat)
  (hA:∀b off,A=some ⟨b,off,none⟩→0<k→A'=some ⟨b,off+at',none⟩) (m:Nat) (hc':k≤c'):NextPost A c0 T w r bs (at',false) (k:Int) (.returned (.slice A' k c')) (w2.drewN m):=by
 subst hcc
 exact ok_post hk hb1 hb2 hg hR h1 h2 A' c' hA m hc'
theorem next_any (w:World) (r:Nat) (bs:List UInt8) (s:Nat×Bool) (hr:Rz A0 k0 148 w r bs s) (n:Int) (hn1:-9223372036854775808≤n) (hn2:n≤9223372036854775807) :
  Calls Tryz.prog 98 #[.pointer (some ⟨r,0,none⟩),.int .i64 n] w fun e w'=>NextPost A0 k0 148 w r bs s n e w':=by
 have hr0:=hr
 have hlt:=hr.lt
 obtain⟨hg,hR,h1,h2,h3⟩:=hr
 obtain⟨A,rfl⟩:∃A,A=A0:=⟨_,rfl⟩
 obtain⟨c,rfl⟩:∃c,c=k0:=⟨_,rfl⟩
 obtain⟨c0,c1,c2⟩:=zr3 hg
 have f1:=frozen_of_row _ _ 1 _ _ hg
 have f2:=frozen_of_row _ _ 2 _ _ hg
 have HG:=hide hg
 have HR:=hide hR
 clear hg hR
 obtain⟨at',bad⟩:=s
 dsimp only at c1 c2 h3
 by_cases hbad:bad=true
 ·subst hbad
  go_enter Tryz.func98,Tryz.ntmps98
  go_wp2
  go_ret
  exact fall_post HG.out HR.out h1 h2 (.inl rfl)
 obtain rfl:bad=false:=by simpa using hbad
 by_cases hneg:n<0
 ·go_enter Tryz.func98,Tryz.ntmps98
  go_wp2
  go_ret
  exact fall_post HG.out HR.out h1 h2 (.inr (.inl hneg))
 have d1:decide (n<0)=false:=decide_eq_false hneg
 go_enter Tryz.func98,Tryz.ntmps98
 go_wp2_with fail
 refine (left_any _ r bs _ hr0).mono ?_
 rintro e w1 ⟨rfl,hb1⟩
 have hg1:=(hb1.block r hlt).trans HG.out
 have hR1:=hide (HR.out.besides (.of_below hb1))
 have c0':=(hb1.cell (p:=⟨r,0,none⟩) hlt).trans c0
 have c1':=(hb1.cell (p:=⟨r,1,none⟩) hlt).trans c1
 have c2':w1.cell? ⟨r,2,none⟩=some (.bool false):=cell_of_row _ _ 2 _ _ _ hg1
 have f1':=frozen_of_row _ _ 1 _ _ hg1
 have f2':=frozen_of_row _ _ 2 _ _ hg1
 have HG1:=hide hg1
 clear hg1 c0 c1 c2 f1 f2 hr0 HG HR
 by_cases hmore:(bs.length:Int)-(at':Int)<n
 ·have d2:decide ((bs.length:Int)-(at':Int)<n)=true:=decide_eq_true hmore
  go_wp2
  go_ret
  exact fall_post' hb1 hlt (fall_post HG1.out hR1.out h1 h2 (.inr (.inr hmore)))
 have d2:decide ((bs.length:Int)-(at':Int)<n)=false:=decide_eq_false hmore
 obtain⟨k,rfl⟩:=Int.eq_ofNat_of_zero_le (show 0≤n by omega)
 have hk:at'+k≤bs.length:=by omega
 have hw:IntKind.i64.wrap ((at':Int)+(k:Int))=(at':Int)+(k:Int):=IntWalk.i64_in _ (by omega)
 have hI0:(0:Int)≤(at':Int):=by omega
 have hI1:(at':Int)≤(at':Int)+(k:Int):=by omega
 have hI2:(at':Int)+(k:Int)≤(c:Int):=by omega
 go_wp2
 obtain⟨w2,hw2⟩:∃w2,w1.setCell ⟨r,1,none⟩ (.int .i64 ((at':Int)+(k:Int)))=w2:=⟨_,rfl⟩
 have hb2:Besides r w1 w2:=by rw[←hw2];exact Besides.setCell _
 have hg2:w2.heap[r]?=some (.cells #[.slice A bs.length c,.int .i64 ((at'+k:Nat):Int),.bool false] 148):=by
  rw[←hw2]
  exact heap_setCell_same _ _ 1 _ _ _ HG1.out
 have hR2:=hide (hR1.out.besides hb2)
 rw[hw2]
 clear hw2 c0' c1' c2' f1' f2' HG1 hR1
 obtain⟨c0,c1⟩:=zr2 hg2
 have HG2:=hide hg2
 clear hg2
 clear d1 d2
 go_quiet (fail)
 go_wp2
 ·go_ret
  exact ok_post2 (c:=c) (show c=at' by omega) hk hb1 hb2 HG2.out hR2.out h1 h2 A 0 (fun _ _ _ h=>by omega) nq (by omega)
 go_ret
 exact ok_post hk hb1 hb2 HG2.out hR2.out h1 h2 _ (c-at') (fun b off e _=>by rw[e,Option.map_some,add_plain]) nq (by omega)
end
section
variable {A0:Option Addr} {k0:Nat}
def num (bs:List UInt8):Nat:=bs.foldl (fun a b=>a*256+b.toNat) 0
theorem num_snoc (bs:List UInt8) (b:UInt8):num (bs ++ [b])=num bs*256+b.toNat:=by simp[num]
theorem num_lt (bs:List UInt8):num bs<256 ^ bs.length:=by
 rcases List.eq_nil_or_concat bs with rfl | ⟨l,b,rfl⟩
 ·decide
 have ih:=num_lt l
 have hb:=b.toNat_lt
 rw[List.concat_eq_append,num_snoc,List.length_append,List.length_singleton,Nat.pow_succ]
 omega
termination_by bs.length
decreasing_by simp_all
theorem num_take {bs:List UInt8} {i:Nat} (h:i<bs.length):num (bs.take (i+1))=num (bs.take i)*256+(bs[i]).toNat:=by
 rw[List.take_succ_eq_append_getElem h,num_snoc]
theorem nx_len (bs:List UInt8) (s:Nat×Bool) (n:Nat):(nx bs s n).1.length≤n:=by
 unfold nx
 split
 ·simp
 simp;omega
theorem or_byte (a b:Nat) (hb:b<256):(a*256) ||| b=a*256+b:=by
 have h:=Nat.two_pow_add_eq_or_of_lt (i:=8) (b:=b) hb a
 rw[show 2 ^ 8*a=a*256 by omega] at h
 omega
theorem bits_or_nat8 {a b:Nat} (ha:a<256 ^ (1-1)) (hb:b<256):bits .or .u8 ((a:Int)*256) (b:Int)=((a*256 ||| b:Nat):Int):=by
 have h:a*256<2 ^ 8:=by omega
 have h2:b<2 ^ 8:=by omega
 rw[show ((a:Int)*256)=((a*256:Nat):Int) by omega]
 generalize a*256=m at h ⊢
 have h3:m ||| b<2 ^ 8:=Nat.or_lt_two_pow h h2
 have e1:(BitVec.ofInt 8 (m:Int)).toNat=m:=by
  rw[BitVec.ofInt_natCast,BitVec.toNat_ofNat];exact Nat.mod_eq_of_lt h
 have e2:(BitVec.ofInt 8 (b:Int)).toNat=b:=by
  rw[BitVec.ofInt_natCast,BitVec.toNat_ofNat];exact Nat.mod_eq_of_lt h2
 show IntKind.u8.wrap ((BitVec.ofInt 8 (m:Int) ||| BitVec.ofInt 8 (b:Int)).toNat:Int)=_
 rw[BitVec.toNat_or,e1,e2,IntKind.wrap_u8]
 omega
theorem bits_or_nat16 {a b:Nat} (ha:a<256 ^ (2-1)) (hb:b<256):bits .or .u16 ((a:Int)*256) (b:Int)=((a*256 ||| b:Nat):Int):=by
 have h:a*256<2 ^ 16:=by omega
 have h2:b<2 ^ 16:=by omega
 rw[show ((a:Int)*256)=((a*256:Nat):Int) by omega]
 generalize a*256=m at h ⊢
 have h3:m ||| b<2 ^ 16:=Nat.or_lt_two_pow h h2
 have e1:(BitVec.ofInt 16 (m:Int)).toNat=m:=by
  rw[BitVec.ofInt_natCast,BitVec.toNat_ofNat];exact Nat.mod_eq_of_lt h
 have e2:(BitVec.ofInt 16 (b:Int)).toNat=b:=by
  rw[BitVec.ofInt_natCast,BitVec.toNat_ofNat];exact Nat.mod_eq_of_lt h2
 show IntKind.u16.wrap ((BitVec.ofInt 16 (m:Int) ||| BitVec.ofInt 16 (b:Int)).toNat:Int)=_
 rw[BitVec.toNat_or,e1,e2,IntKind.wrap_u16]
 omega
theorem bits_or_nat32 {a b:Nat} (ha:a<256 ^ (4-1)) (hb:b<256):bits .or .u32 ((a:Int)*256) (b:Int)=((a*256 ||| b:Nat):Int):=by
 have h:a*256<2 ^ 32:=by omega
 have h2:b<2 ^ 32:=by omega
 rw[show ((a:Int)*256)=((a*256:Nat):Int) by omega]
 generalize a*256=m at h ⊢
 have h3:m ||| b<2 ^ 32:=Nat.or_lt_two_pow h h2
 have e1:(BitVec.ofInt 32 (m:Int)).toNat=m:=by
  rw[BitVec.ofInt_natCast,BitVec.toNat_ofNat];exact Nat.mod_eq_of_lt h
 have e2:(BitVec.ofInt 32 (b:Int)).toNat=b:=by
  rw[BitVec.ofInt_natCast,BitVec.toNat_ofNat];exact Nat.mod_eq_of_lt h2
 show IntKind.u32.wrap ((BitVec.ofInt 32 (m:Int) ||| BitVec.ofInt 32 (b:Int)).toNat:Int)=_
 rw[BitVec.toNat_or,e1,e2,IntKind.wrap_u32]
 omega
theorem bits_or_nat64 {a b:Nat} (ha:a<256 ^ (8-1)) (hb:b<256):bits .or .u64 ((a:Int)*256) (b:Int)=((a*256 ||| b:Nat):Int):=by
 have h:a*256<2 ^ 64:=by omega
 have h2:b<2 ^ 64:=by omega
 rw[show ((a:Int)*256)=((a*256:Nat):Int) by omega]
 generalize a*256=m at h ⊢
 have h3:m ||| b<2 ^ 64:=Nat.or_lt_two_pow h h2
 have e1:(BitVec.ofInt 64 (m:Int)).toNat=m:=by
  rw[BitVec.ofInt_natCast,BitVec.toNat_ofNat];exact Nat.mod_eq_of_lt h
 have e2:(BitVec.ofInt 64 (b:Int)).toNat=b:=by
  rw[BitVec.ofInt_natCast,BitVec.toNat_ofNat];exact Nat.mod_eq_of_lt h2
 show IntKind.u64.wrap ((BitVec.ofInt 64 (m:Int) ||| BitVec.ofInt 64 (b:Int)).toNat:Int)=_
 rw[BitVec.toNat_or,e1,e2,IntKind.wrap_u64]
 omega
theorem read8 (w:World) (r:Nat) (bs:List UInt8) (s:Nat×Bool) (hr:Rz A0 k0 148 w r bs s) :
  Calls Tryz.prog 79 #[.pointer (some ⟨r,0,none⟩)] w fun e w'=>e = .returned (.int .u8 (num (nx bs s 1).1:Nat))∧Rz A0 k0 148 w' r bs (nx bs s 1).2∧Besides r w w':=by
 go_enter Tryz.func79,Tryz.ntmps79
 go_wp2_with fail
 refine (width8 _).mono ?_
 rintro e w1 ⟨rfl,rfl⟩
 go_wp2_with fail
 refine (next_any _ r bs s hr 1 (by decide) (by decide)).mono ?_
 rintro e w1 ⟨⟨A,c,rfl,hR,_⟩,hr1,hb1⟩
 have hL:(nx bs s 1).1.length≤1:=nx_len bs s 1
 generalize hx:nx bs s 1=x at hR hr1 hL ⊢
 have HX:=hide hx
 clear hx
 obtain⟨xs,s'⟩:=x
 dsimp only at hR hr1 hL ⊢
 have HR:=hide hR
 have HR1:=hide hr1
 clear hR hr1
 obtain⟨L,hLe⟩:∃L,xs.length=L:=⟨_,rfl⟩
 have HL:=hide hLe
 rw[hLe] at hL ⊢
 clear hLe
 go_wp2
 go_loop [2,4,9] (fun vn _ vi=>∃i:Nat,vi = .int .i64 i∧i≤L∧vn = .int .u8 (num (xs.take i):Nat)) (fun _ _ vi=>L-(intOf vi).toNat)
 case atStart=>exact⟨0,rfl,by omega,rfl⟩
 case round=>
  obtain⟨i,rfl,hi,rfl⟩:=hrel
  by_cases hlt:i<L
  ·have hil:i<xs.length:=by rw[HL.out];exact hlt
   obtain⟨b,off,rfl,_,_,hc⟩:=HR.out (fun e=>by have:=congrArg List.length e;rw[u8s_len] at this;simp only[List.length_nil] at this;omega)
   have hc1:=hc i _ (u8s_get hil)
   have ht:=hide (num_take hil)
   have hb:=(xs[i]).toNat_lt
   have hlt2:=num_lt (xs.take i)
   have hpow:256 ^ (xs.take i).length≤256 ^ (1-1):=Nat.pow_le_pow_right (by decide) (by rw[List.length_take];omega)
   have ha:num (xs.take i)<256 ^ (1-1):=Nat.lt_of_lt_of_le hlt2 hpow
   clear hlt2 hpow hc
   generalize num (xs.take i)=a at ha ht
   generalize (xs[i]).toNat=y at hb hc1 ht
   go_wp2
   go_round
   case rel=>exact⟨i+1,by go_num,by omega,by rw[ht.out,←or_byte _ _ hb];exact congrArg _ (bits_or_nat8 (by omega) (by omega))⟩
   case measure=>simp[intOf];omega
  obtain rfl:i=L:=by omega
  go_wp2
  go_ret
  rw[←HL.out,List.take_length,HX.out]
  exact⟨rfl,HR1.out,hb1⟩
theorem read16 (w:World) (r:Nat) (bs:List UInt8) (s:Nat×Bool) (hr:Rz A0 k0 148 w r bs s) :
  Calls Tryz.prog 77 #[.pointer (some ⟨r,0,none⟩)] w fun e w'=>e = .returned (.int .u16 (num (nx bs s 2).1:Nat))∧Rz A0 k0 148 w' r bs (nx bs s 2).2∧Besides r w w':=by
 go_enter Tryz.func77,Tryz.ntmps77
 go_wp2_with fail
 refine (width16 _).mono ?_
 rintro e w1 ⟨rfl,rfl⟩
 go_wp2_with fail
 refine (next_any _ r bs s hr 2 (by decide) (by decide)).mono ?_
 rintro e w1 ⟨⟨A,c,rfl,hR,_⟩,hr1,hb1⟩
 have hL:(nx bs s 2).1.length≤2:=nx_len bs s 2
 generalize hx:nx bs s 2=x at hR hr1 hL ⊢
 have HX:=hide hx
 clear hx
 obtain⟨xs,s'⟩:=x
 dsimp only at hR hr1 hL ⊢
 have HR:=hide hR
 have HR1:=hide hr1
 clear hR hr1
 obtain⟨L,hLe⟩:∃L,xs.length=L:=⟨_,rfl⟩
 have HL:=hide hLe
 rw[hLe] at hL ⊢
 clear hLe
 go_wp2
 go_loop [2,4,9] (fun vn _ vi=>∃i:Nat,vi = .int .i64 i∧i≤L∧vn = .int .u16 (num (xs.take i):Nat)) (fun _ _ vi=>L-(intOf vi).toNat)
 case atStart=>exact⟨0,rfl,by omega,rfl⟩
 case round=>
  obtain⟨i,rfl,hi,rfl⟩:=hrel
  by_cases hlt:i<L
  ·have hil:i<xs.length:=by rw[HL.out];exact hlt
   obtain⟨b,off,rfl,_,_,hc⟩:=HR.out (fun e=>by have:=congrArg List.length e;rw[u8s_len] at this;simp only[List.length_nil] at this;omega)
   have hc1:=hc i _ (u8s_get hil)
   have ht:=hide (num_take hil)
   have hb:=(xs[i]).toNat_lt
   have hlt2:=num_lt (xs.take i)
   have hpow:256 ^ (xs.take i).length≤256 ^ (2-1):=Nat.pow_le_pow_right (by decide) (by rw[List.length_take];omega)
   have ha:num (xs.take i)<256 ^ (2-1):=Nat.lt_of_lt_of_le hlt2 hpow
   clear hlt2 hpow hc
   generalize num (xs.take i)=a at ha ht
   generalize (xs[i]).toNat=y at hb hc1 ht
   go_wp2
   go_round
   case rel=>exact⟨i+1,by go_num,by omega,by rw[ht.out,←or_byte _ _ hb];exact congrArg _ (bits_or_nat16 (by omega) (by omega))⟩
   case measure=>simp[intOf];omega
  obtain rfl:i=L:=by omega
  go_wp2
  go_ret
  rw[←HL.out,List.take_length,HX.out]
  exact⟨rfl,HR1.out,hb1⟩
theorem read32 (w:World) (r:Nat) (bs:List UInt8) (s:Nat×Bool) (hr:Rz A0 k0 148 w r bs s) :
  Calls Tryz.prog 76 #[.pointer (some ⟨r,0,none⟩)] w fun e w'=>e = .returned (.int .u32 (num (nx bs s 4).1:Nat))∧Rz A0 k0 148 w' r bs (nx bs s 4).2∧Besides r w w':=by
 go_enter Tryz.func76,Tryz.ntmps76
 go_wp2_with fail
 refine (width32 _).mono ?_
 rintro e w1 ⟨rfl,rfl⟩
 go_wp2_with fail
 refine (next_any _ r bs s hr 4 (by decide) (by decide)).mono ?_
 rintro e w1 ⟨⟨A,c,rfl,hR,_⟩,hr1,hb1⟩
 have hL:(nx bs s 4).1.length≤4:=nx_len bs s 4
 generalize hx:nx bs s 4=x at hR hr1 hL ⊢
 have HX:=hide hx
 clear hx
 obtain⟨xs,s'⟩:=x
 dsimp only at hR hr1 hL ⊢
 have HR:=hide hR
 have HR1:=hide hr1
 clear hR hr1
 obtain⟨L,hLe⟩:∃L,xs.length=L:=⟨_,rfl⟩
 have HL:=hide hLe
 rw[hLe] at hL ⊢
 clear hLe
 go_wp2
 go_loop [2,4,9] (fun vn _ vi=>∃i:Nat,vi = .int .i64 i∧i≤L∧vn = .int .u32 (num (xs.take i):Nat)) (fun _ _ vi=>L-(intOf vi).toNat)
 case atStart=>exact⟨0,rfl,by omega,rfl⟩
 case round=>
  obtain⟨i,rfl,hi,rfl⟩:=hrel
  by_cases hlt:i<L
  ·have hil:i<xs.length:=by rw[HL.out];exact hlt
   obtain⟨b,off,rfl,_,_,hc⟩:=HR.out (fun e=>by have:=congrArg List.length e;rw[u8s_len] at this;simp only[List.length_nil] at this;omega)
   have hc1:=hc i _ (u8s_get hil)
   have ht:=hide (num_take hil)
   have hb:=(xs[i]).toNat_lt
   have hlt2:=num_lt (xs.take i)
   have hpow:256 ^ (xs.take i).length≤256 ^ (4-1):=Nat.pow_le_pow_right (by decide) (by rw[List.length_take];omega)
   have ha:num (xs.take i)<256 ^ (4-1):=Nat.lt_of_lt_of_le hlt2 hpow
   clear hlt2 hpow hc
   generalize num (xs.take i)=a at ha ht
   generalize (xs[i]).toNat=y at hb hc1 ht
   go_wp2
   go_round
   case rel=>exact⟨i+1,by go_num,by omega,by rw[ht.out,←or_byte _ _ hb];exact congrArg _ (bits_or_nat32 (by omega) (by omega))⟩
   case measure=>simp[intOf];omega
  obtain rfl:i=L:=by omega
  go_wp2
  go_ret
  rw[←HL.out,List.take_length,HX.out]
  exact⟨rfl,HR1.out,hb1⟩
theorem read64 (w:World) (r:Nat) (bs:List UInt8) (s:Nat×Bool) (hr:Rz A0 k0 148 w r bs s) :
  Calls Tryz.prog 78 #[.pointer (some ⟨r,0,none⟩)] w fun e w'=>e = .returned (.int .u64 (num (nx bs s 8).1:Nat))∧Rz A0 k0 148 w' r bs (nx bs s 8).2∧Besides r w w':=by
 go_enter Tryz.func78,Tryz.ntmps78
 go_wp2_with fail
 refine (width64 _).mono ?_
 rintro e w1 ⟨rfl,rfl⟩
 go_wp2_with fail
 refine (next_any _ r bs s hr 8 (by decide) (by decide)).mono ?_
 rintro e w1 ⟨⟨A,c,rfl,hR,_⟩,hr1,hb1⟩
 have hL:(nx bs s 8).1.length≤8:=nx_len bs s 8
 generalize hx:nx bs s 8=x at hR hr1 hL ⊢
 have HX:=hide hx
 clear hx
 obtain⟨xs,s'⟩:=x
 dsimp only at hR hr1 hL ⊢
 have HR:=hide hR
 have HR1:=hide hr1
 clear hR hr1
 obtain⟨L,hLe⟩:∃L,xs.length=L:=⟨_,rfl⟩
 have HL:=hide hLe
 rw[hLe] at hL ⊢
 clear hLe
 go_wp2
 go_loop [2,4,9] (fun vn _ vi=>∃i:Nat,vi = .int .i64 i∧i≤L∧vn = .int .u64 (num (xs.take i):Nat)) (fun _ _ vi=>L-(intOf vi).toNat)
 case atStart=>exact⟨0,rfl,by omega,rfl⟩
 case round=>
  obtain⟨i,rfl,hi,rfl⟩:=hrel
  by_cases hlt:i<L
  ·have hil:i<xs.length:=by rw[HL.out];exact hlt
   obtain⟨b,off,rfl,_,_,hc⟩:=HR.out (fun e=>by have:=congrArg List.length e;rw[u8s_len] at this;simp only[List.length_nil] at this;omega)
   have hc1:=hc i _ (u8s_get hil)
   have ht:=hide (num_take hil)
   have hb:=(xs[i]).toNat_lt
   have hlt2:=num_lt (xs.take i)
   have hpow:256 ^ (xs.take i).length≤256 ^ (8-1):=Nat.pow_le_pow_right (by decide) (by rw[List.length_take];omega)
   have ha:num (xs.take i)<256 ^ (8-1):=Nat.lt_of_lt_of_le hlt2 hpow
   clear hlt2 hpow hc
   generalize num (xs.take i)=a at ha ht
   generalize (xs[i]).toNat=y at hb hc1 ht
   go_wp2
   go_round
   case rel=>exact⟨i+1,by go_num,by omega,by rw[ht.out,←or_byte _ _ hb];exact congrArg _ (bits_or_nat64 (by omega) (by omega))⟩
   case measure=>simp[intOf];omega
  obtain rfl:i=L:=by omega
  go_wp2
  go_ret
  rw[←HL.out,List.take_length,HX.out]
  exact⟨rfl,HR1.out,hb1⟩
theorem get8 (w:World) (r:Nat) (bs:List UInt8) (s:Nat×Bool) (hr:Rz A0 k0 148 w r bs s) :
  Calls Tryz.prog 48 #[.pointer (some ⟨r,0,none⟩)] w fun e w'=>e = .returned (.int .u8 (num (nx bs s 1).1:Nat))∧Rz A0 k0 148 w' r bs (nx bs s 1).2∧Besides r w w':=by
 go_enter Tryz.func48,Tryz.ntmps48
 go_wp2_with fail
 refine (read8 _ r bs s hr).mono ?_
 rintro e w1 ⟨rfl,hr1,hb1⟩
 go_wp2
 go_ret
 exact⟨rfl,hr1,hb1⟩
theorem get16 (w:World) (r:Nat) (bs:List UInt8) (s:Nat×Bool) (hr:Rz A0 k0 148 w r bs s) :
  Calls Tryz.prog 46 #[.pointer (some ⟨r,0,none⟩)] w fun e w'=>e = .returned (.int .u16 (num (nx bs s 2).1:Nat))∧Rz A0 k0 148 w' r bs (nx bs s 2).2∧Besides r w w':=by
 go_enter Tryz.func46,Tryz.ntmps46
 go_wp2_with fail
 refine (read16 _ r bs s hr).mono ?_
 rintro e w1 ⟨rfl,hr1,hb1⟩
 go_wp2
 go_ret
 exact⟨rfl,hr1,hb1⟩
theorem get32 (w:World) (r:Nat) (bs:List UInt8) (s:Nat×Bool) (hr:Rz A0 k0 148 w r bs s) :
  Calls Tryz.prog 45 #[.pointer (some ⟨r,0,none⟩)] w fun e w'=>e = .returned (.int .u32 (num (nx bs s 4).1:Nat))∧Rz A0 k0 148 w' r bs (nx bs s 4).2∧Besides r w w':=by
 go_enter Tryz.func45,Tryz.ntmps45
 go_wp2_with fail
 refine (read32 _ r bs s hr).mono ?_
 rintro e w1 ⟨rfl,hr1,hb1⟩
 go_wp2
 go_ret
 exact⟨rfl,hr1,hb1⟩
theorem get64 (w:World) (r:Nat) (bs:List UInt8) (s:Nat×Bool) (hr:Rz A0 k0 148 w r bs s) :
  Calls Tryz.prog 47 #[.pointer (some ⟨r,0,none⟩)] w fun e w'=>e = .returned (.int .u64 (num (nx bs s 8).1:Nat))∧Rz A0 k0 148 w' r bs (nx bs s 8).2∧Besides r w w':=by
 go_enter Tryz.func47,Tryz.ntmps47
 go_wp2_with fail
 refine (read64 _ r bs s hr).mono ?_
 rintro e w1 ⟨rfl,hr1,hb1⟩
 go_wp2
 go_ret
 exact⟨rfl,hr1,hb1⟩
end
end Go.Proofs.YtpojjmbalgmcoaaGreat.rz
namespace Go.Proofs.YtpojjmbalgmcoaaGreat
open Go.RowKit
abbrev VRow:=Int×Int×Bool×Ml
def s64 (n:Nat):Int:=wrap64 (n:Int)
def rowP (l:List UInt8):Option (VRow×List UInt8):=
 if l.length<11 then none
 else if 3<rz.num ((l.drop 10).take 1) then none
 else if rz.num ((l.drop 10).take 1)<2 then some (((rz.num (l.take 2):Int),s64 (rz.num ((l.drop 2).take 8)),decide (rz.num ((l.drop 10).take 1) % 2=1),(false,0)),l.drop 11)
 else if l.length<19 then none
 else some (((rz.num (l.take 2):Int),s64 (rz.num ((l.drop 2).take 8)),decide (rz.num ((l.drop 10).take 1) % 2=1),(true,s64 (rz.num ((l.drop 11).take 8)))),l.drop 19)
def rowsP:Nat→List UInt8→Option (List VRow×List UInt8)
 | 0,l=>some ([],l)
 | k+1,l=>(rowP l).bind fun q=>(rowsP k q.2).map fun z=>(q.1 :: z.1,z.2)
def partOf (st:Int) (rs:List VRow):SPart:=⟨st,rs.map (·.1),rs.map (·.2.1),rs.map (·.2.2.1),rs.map (·.2.2.2)⟩
def noP:SPart:=⟨0,[],[],[],[]⟩
def getF (bs:List UInt8):Option SPart:=
 if bs.length<6 then none
 else match rowsP (rz.num ((bs.drop 4).take 2)) (bs.drop 6) with
  | some (rs,[])=>if rightB (partOf (rz.num (bs.take 4):Int) rs)=true then some (partOf (rz.num (bs.take 4):Int) rs) else none
  | _=>none
def getP (bs:List UInt8):SPart:=(getF bs).getD noP
def getE (bs:List UInt8):Int:=if (getF bs).isSome then 0 else 140
def Going (bs:List UInt8) (n k s:Nat) (rs:List VRow):Prop:=rs.length=k∧k≤n∧s≤bs.length∧rowsP n (bs.drop 6)=(rowsP (n-k) (bs.drop s)).map fun z=>(rs ++ z.1,z.2)
theorem Going.start {bs:List UInt8} (n:Nat) (h:6≤bs.length):Going bs n 0 6 []:=⟨rfl,Nat.zero_le _,h,by cases rowsP n (bs.drop 6) <;> simp⟩
theorem Going.step {bs:List UInt8} {n k s d:Nat} {rs:List VRow} {r:VRow} (h:Going bs n k s rs) (hk:k<n) (hd:s+d≤bs.length) (hr:rowP (bs.drop s)=some (r,(bs.drop s).drop d)):Going bs n (k+1) (s+d) (rs ++ [r]):=by
 refine⟨by simp[h.1],hk,hd,?_⟩
 rw[h.2.2.2,show n-k=(n-(k+1))+1 by omega]
 simp only[rowsP,hr,Option.bind_some,List.drop_drop]
 cases rowsP (n-(k+1)) (bs.drop (s+d)) <;> simp
theorem Going.none_ {bs:List UInt8} {n k s:Nat} {rs:List VRow} (h:Going bs n k s rs) (hk:k<n) (hr:rowP (bs.drop s)=none):rowsP n (bs.drop 6)=none:=by
 rw[h.2.2.2,show n-k=(n-(k+1))+1 by omega]
 simp[rowsP,hr]
theorem Going.done {bs:List UInt8} {n s:Nat} {rs:List VRow} (h:Going bs n n s rs):rowsP n (bs.drop 6)=some (rs,bs.drop s):=by
 rw[h.2.2.2,Nat.sub_self]
 simp[rowsP]
theorem getF_short {bs:List UInt8} (h:bs.length<6):getF bs=none:=by unfold getF;rw[if_pos h]
theorem getF_none {bs:List UInt8} {n:Nat} (hn:rz.num ((bs.drop 4).take 2)=n) (h:rowsP n (bs.drop 6)=none):getF bs=none:=by
 unfold getF
 split
 ·rfl
 rw[hn,h]
theorem getF_left {bs:List UInt8} {n s:Nat} {rs:List VRow} (hn:rz.num ((bs.drop 4).take 2)=n) (h:Going bs n n s rs) (hs:s≠bs.length):getF bs=none:=by
 unfold getF
 split
 ·rfl
 rw[hn,h.done]
 have h2:=h.2.2.1
 obtain⟨x,l,hl⟩:∃x l,bs.drop s=x :: l:=by
  cases hd:bs.drop s with
  | nil=>have:=congrArg List.length hd;simp at this;omega
  | cons x l=>exact⟨x,l,rfl⟩
 rw[hl]
theorem getF_all {bs:List UInt8} {n:Nat} {rs:List VRow} (h6:6≤bs.length) (hn:rz.num ((bs.drop 4).take 2)=n) (h:Going bs n n bs.length rs):getF bs=if rightB (partOf (rz.num (bs.take 4):Int) rs)=true then some (partOf (rz.num (bs.take 4):Int) rs) else none:=by
 unfold getF
 rw[if_neg (by omega),hn,h.done,List.drop_of_length_le (Nat.le_refl _)]
def PartsOf (rs:List VRow) (own vals:List Int) (chg:List Bool) (inb:List Ml):Prop:=own=rs.map (·.1)∧vals=rs.map (·.2.1)∧chg=rs.map (·.2.2.1)∧inb=rs.map (·.2.2.2)
structure GetSt (X:List Nat) (v0 w0:World) (bp:Nat) (T:TypeId) (st:Int) (own vals:List Int) (chg:List Bool) (inb:List Ml) (Ao:Option Addr) (co:Nat) (Av:Option Addr) (cv:Nat) (Ac:Option Addr) (cc:Nat) (Ai:Option Addr) (ci no nv nc ni:Nat) (w:World):Prop where
 hp:w.heap[bp]?=some (.cells #[.int .i64 st,.slice Ao no co,.slice Av nv cv,.slice Ac nc cc,.slice Ai ni ci] T)
 ho:w.ownsRow v0.heap.size 3 1 (.slice Ao no co) no (i64s own)
 hv:w.ownsRow v0.heap.size 2 1 (.slice Av nv cv) nv (i64s vals)
 hc:w.ownsRow v0.heap.size 4 1 (.slice Ac nc cc) nc (bools chg)
 hi:w.ownsRow v0.heap.size 51 2 (.slice Ai ni ci) ni (mlFlat inb)
 kb:KB X v0 w
 bl:Below w0.heap.size w0 w
theorem own_besides {g:Nat} {w w':World} {base size n:Nat} {e:TypeId} {v:Value} {xs:List Value} (h:w.ownsRow base e size v n xs) (hb:Besides g w w') (hg:g<base):w'.ownsRow base e size v n xs:=by
 refine⟨h.1,?_⟩
 rcases h.2 with h0 | ⟨q,cap,cur,hv,hq,hc,hr⟩
 ·exact .inl h0
 exact .inr ⟨q,cap,cur,hv,hq,(hb.block q (lt_of_block hc) (by omega)).trans hc,hr⟩
theorem own_setFar {w:World} {base size n:Nat} {e:TypeId} {v:Value} {xs:List Value} (h:w.ownsRow base e size v n xs) (p:Addr) (u:Value) (hp:∀g,v.ownBlock=some g→g≠p.block):(w.setCell p u).ownsRow base e size v n xs:=by
 refine⟨h.1,?_⟩
 rcases h.2 with h0 | ⟨q,cap,cur,hv,hq,hc,hr⟩
 ·exact .inl h0
 exact .inr ⟨q,cap,cur,hv,hq,(Below.heap_setCell _ _ _ _ (hp q (by rw[hv];rfl))).trans hc,hr⟩
section
variable {X:List Nat} {v0 w0 w w':World} {bp:Nat} {T:TypeId} {st:Int} {own vals:List Int} {chg:List Bool} {inb:List Ml} {Ao:Option Addr} {co:Nat} {Av:Option Addr} {cv:Nat} {Ac:Option Addr} {cc:Nat} {Ai:Option Addr} {ci no nv nc ni:Nat}
theorem GetSt.besides (h:GetSt X v0 w0 bp T st own vals chg inb Ao co Av cv Ac cc Ai ci no nv nc ni w) {r:Nat} (hb:Besides r w w') (hX:r∈X) (hr:r<v0.heap.size) (hne:bp≠r) (hw:w0.heap.size≤r):GetSt X v0 w0 bp T st own vals chg inb Ao co Av cv Ac cc Ai ci no nv nc ni w':=
 ⟨(hb.block bp (lt_of_block h.hp) hne).trans h.hp,own_besides h.ho hb hr,own_besides h.hv hb hr,own_besides h.hc hb hr,own_besides h.hi hb hr,
  ⟨Nat.le_trans h.kb.1 hb.size,fun b hl hx=>(hb.block b (Nat.lt_of_lt_of_le hl h.kb.1) (fun e=>hx (e ▸ hX))).trans (h.kb.2 b hl hx)⟩,h.bl.trans (hb.below hw h.bl.size)⟩
theorem GetSt.alloc (h:GetSt X v0 w0 bp T st own vals chg inb Ao co Av cv Ac cc Ai ci no nv nc ni w) (o:Obj):GetSt X v0 w0 bp T st own vals chg inb Ao co Av cv Ac cc Ai ci no nv nc ni (w.alloc o):=
 ⟨(Below.heap_alloc _ _ _ (lt_of_block h.hp)).trans h.hp,h.ho.alloc o,h.hv.alloc o,h.hc.alloc o,h.hi.alloc o,h.kb.alloc o,h.bl.alloc h.bl.size o⟩
theorem GetSt.far (h:GetSt X v0 w0 bp T st own vals chg inb Ao co Av cv Ac cc Ai ci no nv nc ni w) (p:Addr) (u:Value) (hp:v0.heap.size≤p.block) (hb:bp<v0.heap.size) (hw:w0.heap.size≤p.block)
  (ho:∀g,(Value.slice Ao no co).ownBlock=some g→g≠p.block) (hv:∀g,(Value.slice Av nv cv).ownBlock=some g→g≠p.block) (hc:∀g,(Value.slice Ac nc cc).ownBlock=some g→g≠p.block) (hi:∀g,(Value.slice Ai ni ci).ownBlock=some g→g≠p.block) :
  GetSt X v0 w0 bp T st own vals chg inb Ao co Av cv Ac cc Ai ci no nv nc ni (w.setCell p u):=
 ⟨(Below.heap_setCell _ _ _ _ (by omega)).trans h.hp,own_setFar h.ho p u ho,own_setFar h.hv p u hv,own_setFar h.hc p u hc,own_setFar h.hi p u hi,h.kb.setCell (.inl hp) u,h.bl.setCell hw u⟩
theorem GetSt.appOwn (h:GetSt X v0 w0 bp T st own vals chg inb Ao co Av cv Ac cc Ai ci no nv nc ni w) {cs:Array Value} {te:TypeId} {A':Option Addr} {c':Nat} {x:Int} (hb:bp<v0.heap.size) (hX:bp∈X) (hw:w0.heap.size≤bp) (hv0:w0.heap.size≤v0.heap.size)
  (hown:w'.ownsRow v0.heap.size 3 1 (.slice A' (no+1) c') (no+1) (i64s own ++ [.int .i64 x])) (hg:(w.alloc (.cells cs te)).grownBy w' (Value.slice Ao no co).ownBlock) :
  w'.heap[bp]?=some (.cells #[.int .i64 st,.slice Ao no co,.slice Av nv cv,.slice Ac nc cc,.slice Ai ni ci] T)∧GetSt X v0 w0 bp T st (own ++ [x]) vals chg inb A' c' Av cv Ac cc Ai ci (no+1) nv nc ni (w'.setCell ⟨bp,1,none⟩ (.slice A' (no+1) c')):=by
 have hown':w'.ownsRow v0.heap.size 3 1 (.slice A' (no+1) c') (no+1) (i64s (own ++ [x])):=by rw[←i64s_app];exact hown
 have hp1:w'.heap[bp]?=some (.cells #[.int .i64 st,.slice Ao no co,.slice Av nv cv,.slice Ac nc cc,.slice Ai ni ci] T):=(hg.block bp (lt_of_block (h.alloc (.cells cs te)).hp) (fun e=>by have:=(h.ho.lt bp e.symm).1;omega)).trans (h.alloc (.cells cs te)).hp
 have hs:=heap_setCell_same w' bp 1 _ _ (.slice A' (no+1) c') hp1
 exact⟨hp1,hs,ownsRow_setCell_below hown' (a:=⟨bp,1,none⟩) hb _,ownsRow_setCell_below ((h.alloc (.cells cs te)).hv.kept hg (own_apartA (h.alloc (.cells cs te)).hv (h.alloc (.cells cs te)).ho (by decide))) (a:=⟨bp,1,none⟩) hb _,ownsRow_setCell_below ((h.alloc (.cells cs te)).hc.kept hg (own_apartA (h.alloc (.cells cs te)).hc (h.alloc (.cells cs te)).ho (by decide))) (a:=⟨bp,1,none⟩) hb _,ownsRow_setCell_below ((h.alloc (.cells cs te)).hi.kept hg (own_apartA (h.alloc (.cells cs te)).hi (h.alloc (.cells cs te)).ho (by decide))) (a:=⟨bp,1,none⟩) hb _,((h.alloc (.cells cs te)).kb.grown hg (fun g e => .inl (h.ho.lt g e).1)).setCell (.inr hX) _,(app_below (h.alloc (.cells cs te)).bl (h.alloc (.cells cs te)).ho hg (h.alloc (.cells cs te)).bl.size hv0).setCell hw _⟩
theorem GetSt.appVals (h:GetSt X v0 w0 bp T st own vals chg inb Ao co Av cv Ac cc Ai ci no nv nc ni w) {cs:Array Value} {te:TypeId} {A':Option Addr} {c':Nat} {x:Int} (hb:bp<v0.heap.size) (hX:bp∈X) (hw:w0.heap.size≤bp) (hv0:w0.heap.size≤v0.heap.size)
  (hown:w'.ownsRow v0.heap.size 2 1 (.slice A' (nv+1) c') (nv+1) (i64s vals ++ [.int .i64 x])) (hg:(w.alloc (.cells cs te)).grownBy w' (Value.slice Av nv cv).ownBlock) :
  w'.heap[bp]?=some (.cells #[.int .i64 st,.slice Ao no co,.slice Av nv cv,.slice Ac nc cc,.slice Ai ni ci] T)∧GetSt X v0 w0 bp T st own (vals ++ [x]) chg inb Ao co A' c' Ac cc Ai ci no (nv+1) nc ni (w'.setCell ⟨bp,2,none⟩ (.slice A' (nv+1) c')):=by
 have hown':w'.ownsRow v0.heap.size 2 1 (.slice A' (nv+1) c') (nv+1) (i64s (vals ++ [x])):=by rw[←i64s_app];exact hown
 have hp1:w'.heap[bp]?=some (.cells #[.int .i64 st,.slice Ao no co,.slice Av nv cv,.slice Ac nc cc,.slice Ai ni ci] T):=(hg.block bp (lt_of_block (h.alloc (.cells cs te)).hp) (fun e=>by have:=(h.hv.lt bp e.symm).1;omega)).trans (h.alloc (.cells cs te)).hp
 have hs:=heap_setCell_same w' bp 2 _ _ (.slice A' (nv+1) c') hp1
 exact⟨hp1,hs,ownsRow_setCell_below ((h.alloc (.cells cs te)).ho.kept hg (own_apartA (h.alloc (.cells cs te)).ho (h.alloc (.cells cs te)).hv (by decide))) (a:=⟨bp,2,none⟩) hb _,ownsRow_setCell_below hown' (a:=⟨bp,2,none⟩) hb _,ownsRow_setCell_below ((h.alloc (.cells cs te)).hc.kept hg (own_apartA (h.alloc (.cells cs te)).hc (h.alloc (.cells cs te)).hv (by decide))) (a:=⟨bp,2,none⟩) hb _,ownsRow_setCell_below ((h.alloc (.cells cs te)).hi.kept hg (own_apartA (h.alloc (.cells cs te)).hi (h.alloc (.cells cs te)).hv (by decide))) (a:=⟨bp,2,none⟩) hb _,((h.alloc (.cells cs te)).kb.grown hg (fun g e => .inl (h.hv.lt g e).1)).setCell (.inr hX) _,(app_below (h.alloc (.cells cs te)).bl (h.alloc (.cells cs te)).hv hg (h.alloc (.cells cs te)).bl.size hv0).setCell hw _⟩
theorem GetSt.appChg (h:GetSt X v0 w0 bp T st own vals chg inb Ao co Av cv Ac cc Ai ci no nv nc ni w) {cs:Array Value} {te:TypeId} {A':Option Addr} {c':Nat} {x:Bool} (hb:bp<v0.heap.size) (hX:bp∈X) (hw:w0.heap.size≤bp) (hv0:w0.heap.size≤v0.heap.size)
  (hown:w'.ownsRow v0.heap.size 4 1 (.slice A' (nc+1) c') (nc+1) (bools chg ++ [.bool x])) (hg:(w.alloc (.cells cs te)).grownBy w' (Value.slice Ac nc cc).ownBlock) :
  w'.heap[bp]?=some (.cells #[.int .i64 st,.slice Ao no co,.slice Av nv cv,.slice Ac nc cc,.slice Ai ni ci] T)∧GetSt X v0 w0 bp T st own vals (chg ++ [x]) inb Ao co Av cv A' c' Ai ci no nv (nc+1) ni (w'.setCell ⟨bp,3,none⟩ (.slice A' (nc+1) c')):=by
 have hown':w'.ownsRow v0.heap.size 4 1 (.slice A' (nc+1) c') (nc+1) (bools (chg ++ [x])):=by rw[←bools_append];exact hown
 have hp1:w'.heap[bp]?=some (.cells #[.int .i64 st,.slice Ao no co,.slice Av nv cv,.slice Ac nc cc,.slice Ai ni ci] T):=(hg.block bp (lt_of_block (h.alloc (.cells cs te)).hp) (fun e=>by have:=(h.hc.lt bp e.symm).1;omega)).trans (h.alloc (.cells cs te)).hp
 have hs:=heap_setCell_same w' bp 3 _ _ (.slice A' (nc+1) c') hp1
 exact⟨hp1,hs,ownsRow_setCell_below ((h.alloc (.cells cs te)).ho.kept hg (own_apartA (h.alloc (.cells cs te)).ho (h.alloc (.cells cs te)).hc (by decide))) (a:=⟨bp,3,none⟩) hb _,ownsRow_setCell_below ((h.alloc (.cells cs te)).hv.kept hg (own_apartA (h.alloc (.cells cs te)).hv (h.alloc (.cells cs te)).hc (by decide))) (a:=⟨bp,3,none⟩) hb _,ownsRow_setCell_below hown' (a:=⟨bp,3,none⟩) hb _,ownsRow_setCell_below ((h.alloc (.cells cs te)).hi.kept hg (own_apartA (h.alloc (.cells cs te)).hi (h.alloc (.cells cs te)).hc (by decide))) (a:=⟨bp,3,none⟩) hb _,((h.alloc (.cells cs te)).kb.grown hg (fun g e => .inl (h.hc.lt g e).1)).setCell (.inr hX) _,(app_below (h.alloc (.cells cs te)).bl (h.alloc (.cells cs te)).hc hg (h.alloc (.cells cs te)).bl.size hv0).setCell hw _⟩
theorem GetSt.appInb (h:GetSt X v0 w0 bp T st own vals chg inb Ao co Av cv Ac cc Ai ci no nv nc ni w) {cs:Array Value} {te:TypeId} {A':Option Addr} {c':Nat} {x:Ml} (hb:bp<v0.heap.size) (hX:bp∈X) (hw:w0.heap.size≤bp) (hv0:w0.heap.size≤v0.heap.size)
  (hown:w'.ownsRow v0.heap.size 51 2 (.slice A' (ni+1) c') (ni+1) (mlFlat inb ++ [.bool x.1,.int .i64 x.2])) (hg:(w.alloc (.cells cs te)).grownBy w' (Value.slice Ai ni ci).ownBlock) :
  w'.heap[bp]?=some (.cells #[.int .i64 st,.slice Ao no co,.slice Av nv cv,.slice Ac nc cc,.slice Ai ni ci] T)∧GetSt X v0 w0 bp T st own vals chg (inb ++ [x]) Ao co Av cv Ac cc A' c' no nv nc (ni+1) (w'.setCell ⟨bp,4,none⟩ (.slice A' (ni+1) c')):=by
 have hown':w'.ownsRow v0.heap.size 51 2 (.slice A' (ni+1) c') (ni+1) (mlFlat (inb ++ [x])):=by rw[←mlFlat_app];exact hown
 have hp1:w'.heap[bp]?=some (.cells #[.int .i64 st,.slice Ao no co,.slice Av nv cv,.slice Ac nc cc,.slice Ai ni ci] T):=(hg.block bp (lt_of_block (h.alloc (.cells cs te)).hp) (fun e=>by have:=(h.hi.lt bp e.symm).1;omega)).trans (h.alloc (.cells cs te)).hp
 have hs:=heap_setCell_same w' bp 4 _ _ (.slice A' (ni+1) c') hp1
 exact⟨hp1,hs,ownsRow_setCell_below ((h.alloc (.cells cs te)).ho.kept hg (own_apartA (h.alloc (.cells cs te)).ho (h.alloc (.cells cs te)).hi (by decide))) (a:=⟨bp,4,none⟩) hb _,ownsRow_setCell_below ((h.alloc (.cells cs te)).hv.kept hg (own_apartA (h.alloc (.cells cs te)).hv (h.alloc (.cells cs te)).hi (by decide))) (a:=⟨bp,4,none⟩) hb _,ownsRow_setCell_below ((h.alloc (.cells cs te)).hc.kept hg (own_apartA (h.alloc (.cells cs te)).hc (h.alloc (.cells cs te)).hi (by decide))) (a:=⟨bp,4,none⟩) hb _,ownsRow_setCell_below hown' (a:=⟨bp,4,none⟩) hb _,((h.alloc (.cells cs te)).kb.grown hg (fun g e => .inl (h.hi.lt g e).1)).setCell (.inr hX) _,(app_below (h.alloc (.cells cs te)).bl (h.alloc (.cells cs te)).hi hg (h.alloc (.cells cs te)).bl.size hv0).setCell hw _⟩
end
theorem Chain.same {w:World} {g:Nat}:∀{q:Option Addr} {ps ps':List Piece},Chain w g q ps→Chain w g q ps'→ps.length=ps'.length
 | _,[],[],_,_=>rfl
 | _,[],(_,_,_) :: _,h,⟨b,_,e,_⟩=>by rw[show _=none from h] at e;cases e
 | _,(_,_,_) :: _,[],⟨b,_,e,_⟩,h=>by rw[show _=none from h] at e;cases e
 | _,(_,_,_) :: ps,(_,_,_) :: ps',⟨b,q1,e,_,_,_,h1,_,ht⟩,⟨b',q2,e',_,_,_,h2,_,ht'⟩=>by
  rw[e] at e'
  injection e' with e'
  injection e' with e'
  subst e'
  rw[h1] at h2
  injection h2 with h2
  injection h2 with h2
  subst h2
  simp[Chain.same ht ht']
open Classical in
noncomputable def leftOf (w:World) (g:Nat) (v:Value):Nat:=if h:∃ps q,v = .pointer q∧Chain w g q ps then (Classical.choose h).length else 0
theorem leftOf_eq {w:World} {g:Nat} {q:Option Addr} {ps:List Piece} (h:Chain w g q ps):leftOf w g (.pointer q)=ps.length:=by
 have hex:∃ps q',Value.pointer q = .pointer q'∧Chain w g q' ps:=⟨ps,q,rfl,h⟩
 unfold leftOf
 rw[dif_pos hex]
 obtain⟨q',e,h'⟩:=Classical.choose_spec hex
 injection e with e
 subst e
 exact h'.same h
def outRow (e:Nat) (done:List UInt8):List Value:=List.replicate e (.int .u8 0) ++ u8s done
theorem outRow_len (e:Nat) (done:List UInt8):(outRow e done).length=e+done.length:=by simp[outRow,u8s]
theorem outRow_splice (e:Nat) (bs done:List UInt8):splice (outRow (e+bs.length) done) e (u8s bs)=outRow e (bs ++ done):=by
 unfold splice outRow
 rw[u8s_len,List.take_append_of_le_length (by simp),List.take_replicate,List.drop_append_of_le_length (by simp),List.drop_replicate]
 simp[u8s]
theorem made_cells {w:World} {base g N:Nat} {xs:List Value} {t:TypeId} (h:w.ownsRow base t 1 (.slice (some ⟨g,0,none⟩) N N) N xs):w.heap[g]?=some (.cells xs.toArray t):=by
 rcases h.2 with ⟨e,_⟩ | ⟨g',cap,cur,e,_,hg,_,_,hs,ht⟩
 ·cases e
 injection e with e1 e2 e3
 injection e1 with e1
 injection e1 with e1
 subst e1 e3
 rw[hg,←ht,List.take_of_length_le (by simp[hs])]
theorem made_zero (N:Nat):(madeCells (Value.int .u8 0).cells (N*1)).toList=outRow N []:=by
 rw[Nat.mul_one,show (Value.int .u8 0).cells=#[Value.int .u8 0] from rfl,toList_madeCells_one]
 simp[outRow,u8s]
theorem out_any (w:World) (g:Nat) {lo:Nat} (out:List UInt8) (hW:Wo w g lo out) (hl:out.length≤1000000000000) :
  Calls Tryz.prog 31 #[.pointer (some ⟨g,0,none⟩)] w fun e w'=>e = .returned (.slice (some ⟨w.heap.size,0,none⟩) out.length out.length)∧w'.heap[w.heap.size]?=some (.cells (u8s out).toArray 5)∧Below w.heap.size w w':=by
 obtain⟨ps0,hout,hgl,hll,q0,hg,hc⟩:=hW
 rw[hout] at hg
 obtain⟨c0,c1⟩:=zr2 hg
 have hlt:=lt_of_block hg
 have HC:=hide hc
 clear hg hc
 obtain⟨N,hN⟩:∃N,out.length=N:=⟨_,rfl⟩
 have HN:=hide hN
 rw[hN] at c1 hl ⊢
 clear hN
 obtain⟨i0,hi0,hz0,hz1,hz2⟩:=info_parts (show (Tryz.prog.info? 5).map (fun i=>(i.zero,i.size,i.bytes))=some (some (.int .u8 0),1,1) by kernel_rfl)
 have hb8:i0.bytes*N≤281474976710656:=by rw[hz2];omega
 go_enter Tryz.func31,Tryz.ntmps31
 go_wp2_with (at_make;refine wpList_make_full _ rfl (.tmp 11) (.tmp 11) 45 rfl w.heap.size 5 i0 (.int .u8 0) 1 Tryz.underlying45 hi0 hz0 hz1 .i64 .i64 _ _ N rfl rfl (by omega) (by omega) hb8 (by unfold maxLen;omega) (Nat.le_refl _) ?_;intro w1 hown1 hg1;have hb1:Below w.heap.size w w1:=(Below.refl _ w).grown hg1 (Nat.le_refl _) (fun k e=>by cases e);have c0':=(hb1.cell (p:=⟨g,0,none⟩) hlt).trans c0;have c1':=(hb1.cell (p:=⟨g,1,none⟩) hlt).trans c1;have hm1:=made_cells hown1;rw[made_zero] at hm1;clear hown1 hg1)
 go_loopw [4,5] (fun ve vp wr=>∃(q:Option Addr) (ps:List Piece) (done:List UInt8),outOf ps ++ done=out∧vp = .pointer q∧ve = .int .i64 ((outOf ps).length:Nat)∧Chain w lo q ps∧wr.heap[w.heap.size]?=some (.cells (outRow (outOf ps).length done).toArray 5)∧Below w.heap.size w wr) (fun _ vp _=>leftOf w lo vp)
 case atStart=>exact⟨q0,ps0,[],by rw[List.append_nil];exact hout,rfl,by rw[hout,HN.out],HC.out,by rw[hout,HN.out];exact hm1,hb1⟩
 case round=>
  obtain⟨q,ps,done,hcat,rfl,rfl,hch,hrow,hbw⟩:=hrel
  rcases ps with _ | ⟨⟨A,bs,c⟩,ps⟩
  ·obtain rfl:q=none:=hch
   have hd:done=out:=hcat
   subst hd
   go_wp2
   go_ret
   refine⟨rfl,?_,hbw⟩
   rw[hrow]
   simp[outRow,outOf]
  obtain⟨b,q',rfl,hgb,hbl,k0,k1,hR,hch'⟩:=hch
  have hcat':=hcat
  have hle:=congrArg List.length hcat
  have hoe:(outOf ((A,bs,c) :: ps)).length=(outOf ps).length+bs.length:=by simp[outOf]
  rw[List.length_append,hoe,HN.out] at hle
  rw[hoe] at hrow ⊢
  have hm0:=leftOf_eq hch'
  have hm1':=leftOf_eq (w:=w) (g:=lo) (q:=some ⟨b,0,none⟩) (ps:=(A,bs,c) :: ps) ⟨b,q',rfl,hgb,hbl,k0,k1,hR,hch'⟩
  have k0':=(hbw.cell (p:=⟨b,0,none⟩) hbl).trans k0
  have k1':=(hbw.cell (p:=⟨b,1,none⟩) hbl).trans k1
  have hR':=hR.rd.below' hbw (Nat.le_refl _)
  obtain⟨E,hE⟩:∃E,(outOf ps).length=E:=⟨_,rfl⟩
  obtain⟨L,hL⟩:∃L,bs.length=L:=⟨_,rfl⟩
  have HE:=hide hE
  have HL:=hide hL
  have HM:=hide hm0
  have HM1:=hide hm1'
  have HCat:=hide hcat
  have HCh:=hide hch'
  have HRow:=hide hrow
  have HR:=hide hR'
  have K1:=hide k1
  rw[hE,hL] at hle
  rw[hL] at k0'
  rw[hE,hL]
  clear hE hL hm0 hm1' hcat hcat' hch' hrow hR' k0 k1 hoe hR
  have hI0:(0:Int)≤(E:Int):=by omega
  have hI1:(E:Int)≤(N:Int):=by omega
  have hs1:((E+L:Nat):Int)=(E:Int)+(L:Int):=by omega
  have hs2:IntKind.i64.wrap ((E:Int)+(L:Int)-(L:Int))=(E:Int):=by rw[show (E:Int)+(L:Int)-(L:Int)=(E:Int) by omega];exact IntWalk.i64_in _ (by omega)
  rw[hs1]
  go_wp2
  have hsrc:∀W:World,W.heap=wr.heap→0<(u8s bs).length→∃ad,A=some ad∧∀j v,(u8s bs)[j]?=some v→W.cell? (ad.add j)=some v:=by
   intro W hW hp
   obtain⟨b1,off1,e,_,hcc⟩:=HR.out (fun e=>by rw[e] at hp;simp at hp)
   exact⟨_,e,fun j v hv=>by rw[add_plain];exact (World.cell?_of_block (by rw[hW])).trans (hcc j v hv)⟩
  have HS:=hide hsrc
  have hrow1:Hid (wr.heap[w.heap.size]?=some (.cells (outRow (E+bs.length) done).toArray 5)):=hide (by rw[HRow.out,HE.out])
  have hmin:Hid ((u8s bs).length=Nat.min L (N-E)):=hide (by rw[u8s_len,HL.out];exact (Nat.min_eq_left (by omega)).symm)
  have hnE:Hid (0<(u8s bs).length→N≠E):=hide (fun h=>by rw[u8s_len,HL.out] at h;omega)
  have hfit:Hid (E+(u8s bs).length≤(outRow (E+bs.length) done).length):=hide (by rw[outRow_len,u8s_len];omega)
  clear hsrc
  go_region_law (refine step_copy_splice rfl (.tmp 36) (.tmp 40) 45 45 rfl 5 Tryz.underlying45 (by kernel_rfl) (if N=E then some ⟨w.heap.size,0,none⟩ else some ⟨w.heap.size,E,none⟩) A (N-E) (N-E) L c (by simp[Act.eval]) (by simp[Act.eval]) w.heap.size E (outRow (E+bs.length) done) 5 hrow1.out (u8s bs) hmin.out (fun hp=>⟨if_neg (hnE.out hp),HS.out _ rfl hp⟩) hfit.out (u8s_one bs) w.heap.size w ⟨hbw.os,hbw.tape,hbw.output,hbw.size,hbw.block⟩ (Nat.le_refl _) ?_;intro w4 hg4 hb4)
  have k4:=(hb4.cell (p:=⟨b,1,none⟩) hbl).trans K1.out
  clear HS hrow1 hmin hnE hfit HRow HR hbw
  go_wp2
  go_roundw
  case rel=>
   refine⟨q',ps,bs ++ done,?_,rfl,by rw[HE.out],HCh.out,?_,hb4⟩
   ·rw[←HCat.out];simp[outOf]
   rw[HE.out,←outRow_splice];exact hg4.out
  case measure=>
   show leftOf w lo (.pointer q')<leftOf w lo (.pointer (some ⟨b,0,none⟩))
   rw[HM.out,HM1.out]
   simp
theorem rnum_be (n m:Nat):rz.num (be n m)=m % 256 ^ n:=by
 induction n generalizing m with
 | zero=>simp[be,rz.num,Nat.mod_one]
 | succ n ih=>
  have e:m % 256 ^ (n+1)=m % 256+256*(m / 256 % 256 ^ n):=by rw[Nat.pow_succ,Nat.mul_comm (256 ^ n) 256,Nat.mod_mul]
  rw[be,rz.num_snoc,ih,e,UInt8.toNat_ofNat']
  omega
theorem rnum_snoc_mod (l:List UInt8) (b:UInt8):rz.num (l ++ [b]) / 256=rz.num l∧UInt8.ofNat (rz.num (l ++ [b]))=b:=by
 rw[rz.num_snoc]
 have:=b.toNat_lt
 constructor
 ·omega
 apply UInt8.toNat_inj.1
 rw[UInt8.toNat_ofNat']
 omega
theorem rbe_num:∀(n:Nat) (l:List UInt8),l.length=n→be n (rz.num l)=l
 | 0,l,h=>by rw[List.eq_nil_of_length_eq_zero h];rfl
 | n+1,l,h=>by
  rcases List.eq_nil_or_concat l with rfl | ⟨l',b,rfl⟩
  ·simp at h
  rw[List.concat_eq_append] at h ⊢
  obtain⟨h1,h2⟩:=rnum_snoc_mod l' b
  rw[be,h1,h2,rbe_num n l' (by simpa using h)]
theorem rowP_begin {l l':List UInt8} {r:VRow} (h:rowP l=some (r,l')):∃d,d≤l.length∧l'=l.drop d∧∀k,rowP (l.take k)=if k<d then none else some (r,l'.take (k-d)):=by
 unfold rowP at h
 split at h
 ·cases h
 rename_i h1
 split at h
 ·cases h
 rename_i h2
 split at h
 ·rename_i h3
  injection h with h
  injection h with h h'
  refine⟨11,by omega,h'.symm,fun k=>?_⟩
  by_cases hk:k<11
  ·rw[if_pos hk,rowP,if_pos (by rw[List.length_take];omega)]
  rw[if_neg hk,←h',←h]
  have t1:((l.take k).drop 10).take 1=(l.drop 10).take 1:=by rw[List.drop_take,List.take_take,Nat.min_eq_left (by omega)]
  have t2:(l.take k).take 2=l.take 2:=by rw[List.take_take,Nat.min_eq_left (by omega)]
  have t3:((l.take k).drop 2).take 8=(l.drop 2).take 8:=by rw[List.drop_take,List.take_take,Nat.min_eq_left (by omega)]
  have t4:(l.take k).drop 11=(l.drop 11).take (k-11):=List.drop_take ..
  unfold rowP
  rw[if_neg (by rw[List.length_take];omega),t1,t2,t3,t4,if_neg h2,if_pos h3]
 rename_i h3
 split at h
 ·cases h
 rename_i h4
 injection h with h
 injection h with h h'
 refine⟨19,by omega,h'.symm,fun k=>?_⟩
 by_cases hk:k<19
 ·rw[if_pos hk]
  unfold rowP
  by_cases hk2:k<11
  ·rw[if_pos (by rw[List.length_take];omega)]
  have t1:((l.take k).drop 10).take 1=(l.drop 10).take 1:=by rw[List.drop_take,List.take_take,Nat.min_eq_left (by omega)]
  rw[if_neg (by rw[List.length_take];omega),t1,if_neg h2,if_neg h3,if_pos (by rw[List.length_take];omega)]
 rw[if_neg hk,←h',←h]
 have t1:((l.take k).drop 10).take 1=(l.drop 10).take 1:=by rw[List.drop_take,List.take_take,Nat.min_eq_left (by omega)]
 have t2:(l.take k).take 2=l.take 2:=by rw[List.take_take,Nat.min_eq_left (by omega)]
 have t3:((l.take k).drop 2).take 8=(l.drop 2).take 8:=by rw[List.drop_take,List.take_take,Nat.min_eq_left (by omega)]
 have t5:((l.take k).drop 11).take 8=(l.drop 11).take 8:=by rw[List.drop_take,List.take_take,Nat.min_eq_left (by omega)]
 have t4:(l.take k).drop 19=(l.drop 19).take (k-19):=List.drop_take ..
 unfold rowP
 rw[if_neg (by rw[List.length_take];omega),t1,t2,t3,t4,t5,if_neg h2,if_neg h3,if_neg (by rw[List.length_take];omega)]
theorem rowsP_begin:∀{n:Nat} {l:List UInt8} {rs:List VRow},rowsP n l=some (rs,[])→∀k,k<l.length→rowsP n (l.take k)=none
 | 0,l,rs,h,k,hk=>by
  unfold rowsP at h
  injection h with h
  injection h with _ h
  subst h
  simp at hk
 | n+1,l,rs,h,k,hk=>by
  unfold rowsP at h ⊢
  rcases h1:rowP l with _ | ⟨r,l'⟩
  ·rw[h1] at h;cases h
  rw[h1] at h
  obtain⟨d,hd,hl,hc⟩:=rowP_begin h1
  rw[hc]
  by_cases hkd:k<d
  ·rw[if_pos hkd];rfl
  rw[if_neg hkd]
  simp only[Option.bind_some] at h ⊢
  rcases h2:rowsP n l' with _ | ⟨z,l2⟩
  ·rw[h2] at h;cases h
  rw[h2] at h
  simp only[Option.map_some,Option.some.injEq,Prod.mk.injEq] at h
  rw[h.2] at h2
  rw[rowsP_begin h2 (k-d) (by rw[hl,List.length_drop];omega)]
  rfl
theorem getF_begin {b:List UInt8} {p:SPart} (h:getF b=some p) (k:Nat) (hk:k<b.length):getF (b.take k)=none:=by
 unfold getF at h
 split at h
 ·cases h
 rename_i h6
 by_cases hk6:k<6
 ·exact getF_short (by rw[List.length_take];omega)
 have t1:((b.take k).drop 4).take 2=(b.drop 4).take 2:=by rw[List.drop_take,List.take_take,Nat.min_eq_left (by omega)]
 refine getF_none (n:=rz.num ((b.drop 4).take 2)) (by rw[t1]) ?_
 rw[List.drop_take]
 split at h
 ·rename_i rs h2
  exact rowsP_begin h2 _ (by rw[List.length_drop];omega)
 cases h
theorem take_app {α:Type} {a b:List α} {n:Nat} (h:a.length=n):(a ++ b).take n=a:=by subst h;simp
theorem drop_app {α:Type} {a b:List α} {n:Nat} (h:a.length=n):(a ++ b).drop n=b:=by subst h;simp
theorem s64_id {x:Int} (h0:0≤x) (h1:x≤4611686018427387904):s64 (rz.num (be 8 x.toNat))=x:=by
 rw[rnum_be,Nat.mod_eq_of_lt (by omega)]
 unfold s64
 rw[IntWalk.wrap64_in _ ⟨by omega,by omega⟩]
 omega
theorem rowP_vB {v x:Int} {c:Bool} {m:Ml} (hv:0≤v) (hv2:v<512) (hx:0≤x) (hx2:x≤4611686018427387904) (hm:m.1=true→0≤m.2∧m.2≤4611686018427387904) (rest:List UInt8):rowP (vB v x c m ++ rest)=some ((v,x,c,nmA m),rest):=by
 obtain⟨h,y⟩:=m
 have hf:flagOf c h≤3:=by unfold flagOf;split <;> split <;> omega
 have n1:rz.num (be 1 (flagOf c h))=flagOf c h:=by rw[rnum_be];exact Nat.mod_eq_of_lt (by omega)
 have n2:((rz.num (be 2 v.toNat):Nat):Int)=v:=by rw[rnum_be,Nat.mod_eq_of_lt (by omega)];omega
 have n3:=s64_id hx hx2
 cases h with
 | false=>
  obtain⟨z,hz⟩:∃z,vB v x c (false,y) ++ rest=z:=⟨_,rfl⟩
  have e:z=be 2 v.toNat ++ (be 8 x.toNat ++ (be 1 (flagOf c false) ++ rest)):=by rw[←hz];simp[vB]
  have l:11≤z.length:=by rw[e];simp only[List.length_append,be_len];omega
  have d2:z.drop 2=be 8 x.toNat ++ (be 1 (flagOf c false) ++ rest):=by rw[e,drop_app (be_len _ _)]
  have d10:z.drop 10=be 1 (flagOf c false) ++ rest:=by rw[show 10=2+8 from rfl,←List.drop_drop,d2,drop_app (be_len _ _)]
  have d11:z.drop 11=rest:=by rw[show 11=10+1 from rfl,←List.drop_drop,d10,drop_app (be_len _ _)]
  rw[hz]
  unfold rowP
  rw[if_neg (by omega),d10,take_app (be_len _ _),n1,if_neg (by omega),if_pos (by unfold flagOf;split <;> simp),d11,d2,take_app (be_len _ _),n3]
  rw[show z.take 2=be 2 v.toNat by rw[e,take_app (be_len _ _)],n2]
  cases c <;> rfl
 | true=>
  obtain⟨b1,b2⟩:=hm rfl
  have n4:=s64_id b1 b2
  obtain⟨z,hz⟩:∃z,vB v x c (true,y) ++ rest=z:=⟨_,rfl⟩
  have e:z=be 2 v.toNat ++ (be 8 x.toNat ++ (be 1 (flagOf c true) ++ (be 8 y.toNat ++ rest))):=by rw[←hz];simp[vB]
  have l:19≤z.length:=by rw[e];simp only[List.length_append,be_len];omega
  have d2:z.drop 2=be 8 x.toNat ++ (be 1 (flagOf c true) ++ (be 8 y.toNat ++ rest)):=by rw[e,drop_app (be_len _ _)]
  have d10:z.drop 10=be 1 (flagOf c true) ++ (be 8 y.toNat ++ rest):=by rw[show 10=2+8 from rfl,←List.drop_drop,d2,drop_app (be_len _ _)]
  have d11:z.drop 11=be 8 y.toNat ++ rest:=by rw[show 11=10+1 from rfl,←List.drop_drop,d10,drop_app (be_len _ _)]
  have d19:z.drop 19=rest:=by rw[show 19=11+8 from rfl,←List.drop_drop,d11,drop_app (be_len _ _)]
  rw[hz]
  unfold rowP
  rw[if_neg (by omega),d10,take_app (be_len _ _),n1,if_neg (by omega),if_neg (by unfold flagOf;split <;> simp),if_neg (by omega),d11,d19,d2,take_app (be_len _ _),n3,take_app (be_len _ _),n4]
  rw[show z.take 2=be 2 v.toNat by rw[e,take_app (be_len _ _)],n2]
  cases c <;> rfl
theorem rowsP_flat (f:Nat→List UInt8) (g:Nat→VRow):∀(ls:List Nat),(∀j∈ls,∀rest,rowP (f j ++ rest)=some (g j,rest))→rowsP ls.length (ls.flatMap f)=some (ls.map g,[])
 | [],_=>rfl
 | j :: ls,h=>by
  rw[List.flatMap_cons,List.length_cons,rowsP,h j (by simp)]
  simp only[Option.bind_some]
  rw[rowsP_flat f g ls (fun i hi=>h i (by simp[hi]))]
  rfl
theorem rangeL_getD {α:Type} (l:List α) (d:α) (n:Nat) (h:l.length=n):(List.range n).map (fun j=>l.getD j d)=l:=by
 subst h
 apply List.ext_getElem
 ·simp
 intro i h1 h2
 simp[h2]
theorem range_getD2 {α β:Type} (l:List α) (d:α) (f:α→β) (n:Nat) (h:l.length=n):(List.range n).map (fun j=>f (l.getD j d))=l.map f:=by
 have e:=congrArg (List.map f) (rangeL_getD l d n h)
 rw[List.map_map] at e
 exact e
def nmS (p:SPart):SPart:={ p with inb:=p.inb.map nmA }
theorem nm_nm (m:Ml):nmA (nmA m)=nmA m:=by unfold nmA;split <;> simp_all
theorem rightL_nm:∀(last:Int) (own vals:List Int) (inb:List Ml),rightL last own vals (inb.map nmA)=rightL last own vals inb:=by
 intro last own
 induction own generalizing last with
 | nil=>intro vals inb;rw[rightL_nil,rightL_nil]
 | cons v own ih=>
  intro vals inb
  cases vals with
  | nil=>unfold rightL;rfl
  | cons x vals=>
   cases inb with
   | nil=>rfl
   | cons m inb=>
    obtain⟨h,y⟩:=m
    rw[List.map_cons,rightL,rightL,ih]
    cases h <;> rfl
theorem rightB_nm (p:SPart):rightB (nmS p)=rightB p:=by
 unfold rightB nmS
 simp only[rightL_nm,List.length_map]
theorem sameS_nm (p:SPart):sameS (nmS p) p=true:=by
 unfold sameS nmS
 simp only[eqL_self,decide_true,Bool.and_self,Bool.true_and,List.map_map]
 rw[eqL_true]
 exact List.map_congr_left fun m _=>nm_nm m
theorem getF_put {p:SPart} (h:rightB p=true) (hl:p.own.length≤60):getF (putB p)=some (nmS p):=by
 obtain⟨h0,h1,hv,hc,hi,hr⟩:=right_parts h
 have hel:=fun {i:Nat} {v x:Int} {m:Ml}=>right_elem (i:=i) (v:=v) (x:=x) (m:=m) hr (by omega)
 obtain⟨z,hz⟩:∃z,putB p=z:=⟨_,rfl⟩
 have e:z=be 4 p.step.toNat ++ (be 2 p.own.length ++ rowsB p p.own.length):=by rw[←hz];simp[putB,headB]
 have l:6≤z.length:=by rw[e];simp only[List.length_append,be_len];omega
 have d4:z.drop 4=be 2 p.own.length ++ rowsB p p.own.length:=by rw[e,drop_app (be_len _ _)]
 have d6:z.drop 6=rowsB p p.own.length:=by rw[show 6=4+2 from rfl,←List.drop_drop,d4,drop_app (be_len _ _)]
 have n1:rz.num (be 2 p.own.length)=p.own.length:=by rw[rnum_be];exact Nat.mod_eq_of_lt (by omega)
 have n2:((rz.num (be 4 p.step.toNat):Nat):Int)=p.step:=by rw[rnum_be,Nat.mod_eq_of_lt (by omega)];omega
 have hrows:=rowsP_flat (fun j=>vB (p.own.getD j 0) (p.vals.getD j 0) (p.chg.getD j false) (p.inb.getD j (false,0))) (fun j=>(p.own.getD j 0,p.vals.getD j 0,p.chg.getD j false,nmA (p.inb.getD j (false,0)))) (List.range p.own.length) (fun j hj rest=>by
  have hj':j<p.own.length:=by simpa using hj
  have g1:p.own[j]?=some (p.own.getD j 0):=by simp[hj']
  have g2:p.vals[j]?=some (p.vals.getD j 0):=by simp[hv,hj']
  have g4:p.inb[j]?=some (p.inb.getD j (false,0)):=by simp[hi,hj']
  obtain⟨a1,a2,a3,a4,a5⟩:=hel g1 g2 g4
  exact rowP_vB a1 a2 a3 a4 a5 rest)
 rw[List.length_range] at hrows
 rw[show (List.range p.own.length).flatMap (fun j=>vB (p.own.getD j 0) (p.vals.getD j 0) (p.chg.getD j false) (p.inb.getD j (false,0)))=z.drop 6 from d6.symm] at hrows
 rw[hz]
 unfold getF
 rw[if_neg (by omega),d4,take_app (be_len _ _),n1,hrows]
 have hpart:partOf ((rz.num (z.take 4):Nat):Int) ((List.range p.own.length).map (fun j=>(p.own.getD j 0,p.vals.getD j 0,p.chg.getD j false,nmA (p.inb.getD j (false,0)))))=nmS p:=by
  have n3:((rz.num (z.take 4):Nat):Int)=p.step:=by rw[e,take_app (be_len _ _),n2]
  rw[n3]
  unfold partOf nmS
  simp only[List.map_map,Function.comp_def]
  rw[rangeL_getD p.own 0 _ rfl,rangeL_getD p.vals 0 _ hv,rangeL_getD p.chg false _ hc,range_getD2 p.inb (false,0) nmA _ hi]
 simp only[hpart]
 rw[rightB_nm,h,if_pos rfl]
def rb (r:VRow):List UInt8:=vB r.1 r.2.1 r.2.2.1 r.2.2.2
def okR (r:VRow):Prop:=0≤r.2.1∧(r.2.2.2.1=true→0≤r.2.2.2.2)
theorem be_s64 {l:List UInt8} (hl:l.length=8) (h:0≤s64 (rz.num l)):be 8 (s64 (rz.num l)).toNat=l:=by
 have hlt:=rz.num_lt l
 rw[hl] at hlt
 have e:(s64 (rz.num l)).toNat=rz.num l:=by
  unfold s64 at h ⊢
  unfold wrap64 at h ⊢
  omega
 rw[e,rbe_num 8 l hl]
theorem split3 {l:List UInt8} (h:11≤l.length):l=l.take 2 ++ ((l.drop 2).take 8 ++ ((l.drop 10).take 1 ++ l.drop 11)):=by
 have h1:l.drop 10=(l.drop 10).take 1 ++ l.drop 11:=by
  have:=(List.take_append_drop 1 (l.drop 10)).symm
  rwa [List.drop_drop] at this
 have h2:l.drop 2=(l.drop 2).take 8 ++ l.drop 10:=by
  have:=(List.take_append_drop 8 (l.drop 2)).symm
  rwa [List.drop_drop] at this
 rw[←h1,←h2]
 exact (List.take_append_drop 2 l).symm
theorem flag_byte {l:List UInt8} (hl:l.length=1) {c h:Bool} (e:flagOf c h=rz.num l):be 1 (flagOf c h)=l:=by rw[e];exact rbe_num 1 l hl
theorem rowP_rb {l l':List UInt8} {r:VRow} (h:rowP l=some (r,l')) (ok:okR r):l=rb r ++ l':=by
 unfold rowP at h
 split at h
 ·cases h
 rename_i h1
 have l1:((l.drop 10).take 1).length=1:=by simp;omega
 have l2:(l.take 2).length=2:=by simp;omega
 have l8:((l.drop 2).take 8).length=8:=by simp;omega
 have hsp:=split3 (l:=l) (by omega)
 split at h
 ·cases h
 rename_i h2
 split at h
 ·rename_i h3
  injection h with h
  injection h with h h'
  subst h h'
  unfold rb vB
  have f1:be 1 (flagOf (decide (rz.num ((l.drop 10).take 1) % 2=1)) false)=(l.drop 10).take 1:=flag_byte l1 (by
   generalize rz.num ((l.drop 10).take 1)=z at *
   unfold flagOf
   by_cases hz:z % 2=1
   ·simp[hz];omega
   ·simp[hz];omega)
  have f2:=be_s64 l8 ok.1
  dsimp only at f1 f2 ⊢
  rw[f1,f2,Int.toNat_natCast,rbe_num 2 _ l2]
  simpa using hsp
 rename_i h3
 split at h
 ·cases h
 rename_i h4
 injection h with h
 injection h with h h'
 subst h h'
 unfold rb vB
 have f1:be 1 (flagOf (decide (rz.num ((l.drop 10).take 1) % 2=1)) true)=(l.drop 10).take 1:=flag_byte l1 (by
  generalize rz.num ((l.drop 10).take 1)=z at *
  unfold flagOf
  by_cases hz:z % 2=1
  ·simp[hz];omega
  ·simp[hz];omega)
 have f2:=be_s64 l8 ok.1
 have f3:=be_s64 (l:=(l.drop 11).take 8) (by simp;omega) (ok.2 rfl)
 have h11:l.drop 11=(l.drop 11).take 8 ++ l.drop 19:=by
  have:=(List.take_append_drop 8 (l.drop 11)).symm
  rwa [List.drop_drop] at this
 dsimp only at f1 f2 f3 ⊢
 rw[f1,f2,Int.toNat_natCast,rbe_num 2 _ l2,if_pos rfl,f3]
 rw[h11] at hsp
 simpa using hsp
theorem rowsP_rb:∀{n:Nat} {l l':List UInt8} {rs:List VRow},rowsP n l=some (rs,l')→(∀r∈rs,okR r)→l=rs.flatMap rb ++ l'∧rs.length=n
 | 0,l,l',rs,h,ok=>by
  unfold rowsP at h
  injection h with h
  injection h with h h'
  subst h h'
  exact⟨rfl,rfl⟩
 | n+1,l,l',rs,h,ok=>by
  unfold rowsP at h
  rcases h1:rowP l with _ | ⟨r,l1⟩
  ·rw[h1] at h;cases h
  rw[h1] at h
  simp only[Option.bind_some] at h
  rcases h2:rowsP n l1 with _ | ⟨z,l2⟩
  ·rw[h2] at h;cases h
  rw[h2] at h
  simp only[Option.map_some,Option.some.injEq,Prod.mk.injEq] at h
  obtain⟨rfl,rfl⟩:=h
  obtain⟨a1,a2⟩:=rowsP_rb h2 (fun r hr=>ok r (by simp[hr]))
  refine⟨?_,by simp[a2]⟩
  rw[rowP_rb h1 (ok r (by simp)),a1]
  simp
theorem rows_okR {st:Int} {rs:List VRow} (h:rightB (partOf st rs)=true):∀r∈rs,okR r:=by
 intro r hr
 obtain⟨_,_,_,_,_,hl⟩:=right_parts h
 obtain⟨i,hi,rfl⟩:=List.getElem_of_mem hr
 have:=right_elem (i:=i) (v:=(rs[i]).1) (x:=(rs[i]).2.1) (m:=(rs[i]).2.2.2) hl (by omega) (by simp[partOf,hi]) (by simp[partOf,hi]) (by simp[partOf,hi])
 exact⟨this.2.2.1,fun hm=>(this.2.2.2.2 hm).1⟩
theorem rowsB_rb (st:Int) (rs:List VRow):rowsB (partOf st rs) rs.length=rs.flatMap rb:=by
 conv=>rhs;rw[←rangeL_getD rs (0,0,false,(false,0)) _ rfl]
 unfold rowsB
 rw[List.flatMap_map]
 rw[List.flatMap_def,List.flatMap_def]
 congr 1
 apply List.map_congr_left
 intro j hj
 have hj':j<rs.length:=by simpa using hj
 simp[partOf,rb,hj']
theorem putB_get {b:List UInt8} {p:SPart} (h:getF b=some p):putB p=b∧rightB p=true∧p.own.length≤65535:=by
 unfold getF at h
 split at h
 ·cases h
 rename_i h6
 split at h
 ·rename_i rs h2
  split at h
  ·rename_i hr
   injection h with h
   subst h
   obtain⟨a1,a2⟩:=rowsP_rb h2 (rows_okR hr)
   have l4:(b.take 4).length=4:=by simp;omega
   have l2:((b.drop 4).take 2).length=2:=by simp;omega
   have hlt:=rz.num_lt ((b.drop 4).take 2)
   rw[l2] at hlt
   have hown:(partOf ((rz.num (b.take 4):Nat):Int) rs).own.length=rs.length:=by simp[partOf]
   refine⟨?_,hr,by rw[hown];omega⟩
   unfold putB headB
   rw[hown,rowsB_rb,a2,rbe_num 2 _ l2]
   have hst:(partOf ((rz.num (b.take 4):Nat):Int) rs).step.toNat=rz.num (b.take 4):=by simp[partOf]
   rw[hst,rbe_num 4 _ l4]
   rw[List.append_nil] at a1
   rw[←a1]
   have h46:b.drop 4=(b.drop 4).take 2 ++ b.drop 6:=by
    have:=(List.take_append_drop 2 (b.drop 4)).symm
    rwa [List.drop_drop] at this
   rw[List.append_assoc,←h46]
   exact List.take_append_drop 4 b
  cases h
 cases h
theorem rowsB_min (p:SPart) (i:Nat):11*i≤(rowsB p i).length:=by
 induction i with
 | zero=>simp
 | succ i ih=>
  unfold rowsB at ih ⊢
  rw[List.range_succ,List.flatMap_append,List.length_append]
  simp only[List.flatMap_cons,List.flatMap_nil,List.append_nil]
  have:11≤(vB (p.own.getD i 0) (p.vals.getD i 0) (p.chg.getD i false) (p.inb.getD i (false,0))).length:=by
   unfold vB
   simp only[List.length_append,be_len]
   omega
  omega
theorem get_own {b:List UInt8} {p:SPart} (h:getF b=some p):6+11*p.own.length≤b.length:=by
 have h1:=(putB_get h).1
 have h2:=rowsB_min p p.own.length
 rw[←h1]
 unfold putB
 rw[List.length_append,headB_len]
 omega
theorem put_long (p:SPart):6≤(putB p).length:=by
 unfold putB
 rw[List.length_append,headB_len]
 omega
theorem rd_first {w:World} {A:Option Addr} {bs:List UInt8} (h:Rd w w.heap.size A (u8s bs)) (k:Nat):Rd w w.heap.size A (u8s (bs.take k)):=by
 have e:u8s (bs.take k)=(u8s bs).take k:=by simp[u8s]
 rw[e]
 exact h.take k
end Go.Proofs.YtpojjmbalgmcoaaGreat

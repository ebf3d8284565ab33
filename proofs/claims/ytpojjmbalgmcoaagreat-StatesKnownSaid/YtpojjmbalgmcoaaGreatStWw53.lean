/- Lemmas: Ktn. -/
import Derived.Test.YtpojjmbalgmcoaaGreatProg
import Derived.Lib.Hide
import Derived.WalkSpells
import Derived.WalkMore
import Derived.IntWalk
import Derived.Deep.Strs
import Derived.Test.YtpojjmbalgmcoaaGreatStWw28
import Derived.Test.YtpojjmbalgmcoaaGreatStWw52
set_option linter.unusedVariables false
set_option linter.unusedSimpArgs false
set_option maxRecDepth 100000
set_option maxHeartbeats 16000000
namespace Go.Proofs.YtpojjmbalgmcoaaGreat
open Go.RowKit
theorem Rd.set8 {w:World} {B g i:Nat} {f:List UInt8} {u:Value} (h:Rd w B (some ⟨g,0,none⟩) (u8s f)) (hi:i<f.length) (hc:w.cell? ⟨g,i,none⟩=some u) (d:UInt8):Rd (w.setCell ⟨g,i,none⟩ (.int .u8 (d.toNat:Int))) B (some ⟨g,0,none⟩) (u8s (f.set i d)):=fun _=>by
 obtain⟨b,off,e,hb,hcc⟩:=h.at_ (k:=i) (by rw[u8s_len];exact hi)
 injection e with e
 injection e with e1 e2
 subst e1 e2
 refine⟨g,0,rfl,hb,fun j v hv=>?_⟩
 rw[Nat.zero_add]
 unfold u8s at hv
 rw[List.getElem?_map,Option.map_eq_some_iff] at hv
 obtain⟨c,hv1,rfl⟩:=hv
 by_cases hj:j=i
 ·subst hj
  rw[List.getElem?_set_self hi] at hv1
  injection hv1 with hv1
  subst hv1
  exact World.cell?_setCell_same _ _ _ hc
 rw[List.getElem?_set_ne (Ne.symm hj)] at hv1
 rw[World.cell?_setCell_other _ _ _ _ (fun e=>hj (by injection e with _ e;first | exact e | exact e.symm))]
 have h9:=hcc j (.int .u8 (c.toNat:Int)) (by unfold u8s;rw[List.getElem?_map,hv1];rfl)
 rwa [Nat.zero_add] at h9
def SmS (w:World) (s:SV) (A1 A2 A3:Option Addr) (V:Nat):Prop:=VLen s V V V∧VIn w s A1 A2 A3∧V≤60
theorem SmS.next {w:World} {s:SV} {A1 A2 A3:Option Addr} {V:Nat} {w':World} (h:SmS w s A1 A2 A3 V) (hb:Below w.heap.size w w'):SmS w' s A1 A2 A3 V:=⟨h.1,h.2.1.next hb,h.2.2⟩
theorem SmS.whole {w:World} {s:SV} {A1 A2 A3:Option Addr} {V:Nat} (h:SmS w s A1 A2 A3 V) (c1 c2 c3:Nat) (n:Int) (h1:0≤n) (h2:n≤255):Calls Tryz.prog 6 #[.agg #[.int .i64 s.st,.slice A1 V c1,.slice A2 V c2,.slice A3 V c3,.int .i64 s.sm,.int .i64 s.mo],.int .u8 n] w fun e w'=>e = .returned (.bool true)∧Below w.heap.size w w':=by
 obtain⟨m,rfl⟩:=Int.eq_ofNat_of_zero_le h1
 exact statesWhole_go w s.st s.sm s.mo A1 A2 A3 V V V c1 c2 c3 s.vals s.chg s.inb m (by omega) h.1.1 h.1.2.1 h.1.2.2 h.2.1.vals h.2.1.chg h.2.1.inb
theorem SmS.take {w:World} {s:SV} {A1 A2 A3:Option Addr} {V:Nat} (h:SmS w s A1 A2 A3 V) (c1 c2 c3:Nat) (n k:Int):Calls Tryz.prog 8 #[.agg #[.int .i64 s.st,.slice A1 V c1,.slice A2 V c2,.slice A3 V c3,.int .i64 s.sm,.int .i64 s.mo],.int .i64 n,.int .i64 k] w fun e w'=>e = .returned (.bool true)∧Below w.heap.size w w':=by
 have:=h.2.2
 exact statesTake_go w s.st s.sm s.mo A1 A2 A3 V V V c1 c2 c3 s.vals s.chg s.inb n k h.1.1 h.1.2.1 h.1.2.2 h.2.1.vals h.2.1.chg h.2.1.inb (by omega) (by omega) (by omega)
def SmP (w:World) (p:SPart) (Ao Av Ac Ai:Option Addr) (no nv nc ni:Nat):Prop:=SLen p no nv nc ni∧SIn w p Ao Av Ac Ai∧(no≤9223372036854775807∧nv≤9223372036854775807∧nc≤9223372036854775807∧ni≤9223372036854775807)
theorem SmP.next {w:World} {p:SPart} {Ao Av Ac Ai:Option Addr} {no nv nc ni:Nat} {w':World} (h:SmP w p Ao Av Ac Ai no nv nc ni) (hb:Below w.heap.size w w'):SmP w' p Ao Av Ac Ai no nv nc ni:=⟨h.1,h.2.1.next hb,h.2.2⟩
theorem SmP.put {w:World} {p:SPart} {Ao Av Ac Ai:Option Addr} {no nv nc ni:Nat} (h:SmP w p Ao Av Ac Ai no nv nc ni) (co cv cc ci:Nat):Calls Tryz.prog 13 #[.agg #[.int .i64 p.step,.slice Ao no co,.slice Av nv cv,.slice Ac nc cc,.slice Ai ni ci]] w fun e w'=>e = .returned (.bool true)∧Below w.heap.size w w':=statesPut_walk w p Ao Av Ac Ai no nv nc ni co cv cc ci h.1 h.2.1 h.2.2
theorem SmP.back {w:World} {p:SPart} {Ao Av Ac Ai:Option Addr} {no nv nc ni:Nat} (h:SmP w p Ao Av Ac Ai no nv nc ni) (co cv cc ci:Nat) (A:Option Addr) (bs:List UInt8) (L c:Nat) (hL:bs.length=L) (hR:Rd w w.heap.size A (u8s bs)) (hlm:L≤9223372036854775807) (cut:Int) (h1:-9223372036854775808≤cut) (h2:cut≤9223372036854775807) :
  Calls Tryz.prog 12 #[.agg #[.int .i64 p.step,.slice Ao no co,.slice Av nv cv,.slice Ac nc cc,.slice Ai ni ci],.slice A L c,.int .i64 cut] w fun e w'=>e = .returned (.bool true)∧Below w.heap.size w w':=by
 subst hL
 exact statesBack_walk w p Ao Av Ac Ai no nv nc ni co cv cc ci h.1 h.2.1 h.2.2 A bs c hR hlm cut h1 h2
theorem SmP.zero (w:World) (x:Int):SmP w ⟨x,[],[],[],[]⟩ none none none none 0 0 0 0:=⟨⟨rfl,rfl,rfl,rfl⟩,⟨Rd.nil_,Rd.nil_,Rd.nil_,Rd.nil_⟩,by omega⟩
theorem sgw_any (w:World) (A:Option Addr) (bs:List UInt8) (L c:Nat) (hL:bs.length=L) (hR:Rd w w.heap.size A (u8s bs)) (hlm:L≤9223372036854775807):Calls Tryz.prog 11 #[.slice A L c] w fun e w'=>e = .returned (.bool true)∧Below w.heap.size w w':=by
 subst hL
 exact statesGet_walk w A bs c hR hlm
theorem SmP.row {w:World} {p:SPart} {Ao Av Ac Ai:Option Addr} {no nv nc ni:Nat} {g co cv cc ci:Nat} (h:SmP w p Ao Av Ac Ai no nv nc ni) (hg:w.heap[g]?=some (.cells #[.int .i64 p.step,.slice Ao no co,.slice Av nv cv,.slice Ac nc cc,.slice Ai ni ci] 42)):PRow w (some ⟨g,0,none⟩) [p]:=fun _=>
 ⟨g,0,rfl,lt_of_block hg,fun i x hx=>by
  rcases i with _ | i
  ·simp only[List.getElem?_cons_zero,Option.some.injEq] at hx
   subst hx
   exact⟨[.int .i64 p.step,.slice Ao no co,.slice Av nv cv,.slice Ac nc cc,.slice Ai ni ci],rfl,⟨Ao,Av,Ac,Ai,no,nv,nc,ni,co,cv,cc,ci,rfl,h.1,h.2.1,h.2.2⟩,fun j u hu=>by
    rw[Nat.zero_add,Nat.zero_mul,Nat.zero_add,cell_of_row w g j _ _ _ hg,←hu];simp⟩
  ·simp at hx⟩
def StAt (w:World) (e:Ending) (w':World):Prop:=
 ∃(s:SV) (A1 A2 A3:Option Addr) (V c1 c2 c3:Nat) (E:Int),e = .returned (.tuple #[.agg #[.int .i64 s.st,.slice A1 V c1,.slice A2 V c2,.slice A3 V c3,.int .i64 s.sm,.int .i64 s.mo],.int .i64 E])∧SmS w' s A1 A2 A3 V∧Below w.heap.size w w'
theorem mat1_any (w:World) (A:Option Addr) (c:Nat) (hE:Eds w w.heap.size A millE) (k j1 j2 j3 j4:Int):Calls Tryz.prog 5 #[.agg #[.int .i64 6,.slice A 5 c],.agg #[.int .u8 k,.int .i64 j1,.int .i64 j2,.int .i64 j3,.int .i64 j4],.int .i64 1] w (StAt w):=by
 have h:=qat_any w 6 A millE 5 c rfl (by decide) hE k j1 j2 j3 j4 1 (fun _=>by decide)
 have hok:acheckF k j1 j2 j3 j4 6 millE=0→OkS (6:Int).toNat (atV k j2 j3 millE (6:Int).toNat (1:Int).toNat):=fun h0=>atV_ok (by decide) (acheck_ok h0).1.2.2 _
 obtain⟨s,hs⟩:∃s,atV k j2 j3 millE (6:Int).toNat (1:Int).toNat=s:=⟨_,rfl⟩
 rw[hs] at h hok
 clear hs
 rw[show (6:Int).toNat=6 from rfl] at h hok
 refine h.mono ?_
 rintro e w' (⟨_,rfl,hb⟩ | ⟨h0,Av,Ac,Ai,cv,cc,ci,rfl,hin,hb,_,_,_⟩)
 ·exact⟨⟨0,[],[],[],0,0⟩,none,none,none,0,0,0,0,_,rfl,⟨⟨rfl,rfl,rfl⟩,⟨fun h=>absurd rfl h,fun h=>absurd rfl h,fun h=>absurd rfl h⟩,by decide⟩,hb⟩
 have hk:acheckF k j1 j2 j3 j4 6 millE=0:=by
  unfold atE at h0
  by_cases h9:acheckF k j1 j2 j3 j4 6 millE=0
  ·exact h9
  rw[if_pos h9] at h0;exact absurd h0 h9
 have ho:=hok hk
 exact⟨s,Av,Ac,Ai,6,cv,cc,ci,0,rfl,⟨⟨ho.lv,ho.lc,ho.li⟩,hin,by decide⟩,hb⟩
def allocL (w:World) (os:List Obj):World:=os.foldl World.alloc w
theorem allocL_spec:∀(os:List Obj) (w:World),Below w.heap.size w (allocL w os)∧(allocL w os).heap.size=w.heap.size+os.length∧∀i o,os[i]?=some o→(allocL w os).heap[w.heap.size+i]?=some o
 | [],w=>⟨Below.refl _ _,rfl,fun i o h=>by simp at h⟩
 | a :: os,w=>by
  obtain⟨h1,h2,h3⟩:=allocL_spec os (w.alloc a)
  have hb:Below w.heap.size w (w.alloc a):=(Below.refl _ _).alloc (Nat.le_refl _) _
  rw[World.size_alloc] at h2
  refine⟨hb.trans (h1.mono (by rw[World.size_alloc];omega)),by rw[show allocL w (a :: os)=allocL (w.alloc a) os from rfl,h2,List.length_cons];omega,fun i o h=>?_⟩
  rcases i with _ | i
  ·simp only[List.getElem?_cons_zero,Option.some.injEq] at h
   subst h
   exact (h1.block w.heap.size (by simp)).trans (heap_alloc_last w _)
  have h4:=h3 i o (by simpa using h)
  rw[World.size_alloc] at h4
  rw[show w.heap.size+(i+1)=w.heap.size+1+i by omega]
  exact h4
theorem bytes9 {w:World} {C:Nat} (h:w.heap[C]?=some (.cells #[.int .u8 0,.int .u8 1,.int .u8 2,.int .u8 3,.int .u8 4,.int .u8 64,.int .u8 65,.int .u8 128,.int .u8 255] 5)) {q:Nat} (hq:q<9):∃d:UInt8,w.cell? ⟨C,q,none⟩=some (.int .u8 (d.toNat:Int)):=by
 rcases (show q=0∨q=1∨q=2∨q=3∨q=4∨q=5∨q=6∨q=7∨q=8 by omega) with rfl | rfl | rfl | rfl | rfl | rfl | rfl | rfl | rfl
 ·exact⟨0,cell_of_row _ _ 0 _ _ _ h⟩
 ·exact⟨1,cell_of_row _ _ 1 _ _ _ h⟩
 ·exact⟨2,cell_of_row _ _ 2 _ _ _ h⟩
 ·exact⟨3,cell_of_row _ _ 3 _ _ _ h⟩
 ·exact⟨4,cell_of_row _ _ 4 _ _ _ h⟩
 ·exact⟨64,cell_of_row _ _ 5 _ _ _ h⟩
 ·exact⟨65,cell_of_row _ _ 6 _ _ _ h⟩
 ·exact⟨128,cell_of_row _ _ 7 _ _ _ h⟩
 exact⟨255,cell_of_row _ _ 8 _ _ _ h⟩
def tenO (wa:World):List Obj:=[.cells #[.int .i64 511] 3,.cells #[.int .i64 4611686018427387904] 2,.cells #[.bool true] 4,.cells #[.bool false,.int .i64 (-5)] 51,.cells #[.int .i64 512] 3,.cells #[.int .i64 1] 2,.cells #[.bool true] 4,.cells #[.bool false,.int .i64 0] 51,.cells #[.int .i64 1] 3,.cells #[.int .i64 1,.int .i64 1] 3,.cells #[.int .i64 0,.int .i64 0] 2,.cells #[.bool true,.bool true] 4,.cells #[.bool false,.int .i64 0,.bool false,.int .i64 0] 51,.cells #[.int .i64 1] 3,.cells #[.int .i64 4611686018427387905] 2,.cells #[.bool true] 4,.cells #[.bool false,.int .i64 0] 51,.cells #[.int .i64 1] 3,.cells #[.int .i64 1] 2,.cells #[.bool true] 4,.cells #[.bool true,.int .i64 (-1)] 51,.cells #[.int .i64 0,.slice none 0 0,.slice none 0 0,.slice none 0 0,.slice none 0 0,.int .i64 2000,.slice none 0 0,.slice none 0 0,.slice none 0 0,.slice none 0 0,.int .i64 2001,.slice none 0 0,.slice none 0 0,.slice none 0 0,.slice none 0 0,.int .i64 (-1),.slice none 0 0,.slice none 0 0,.slice none 0 0,.slice none 0 0,.int .i64 0,.slice (some ⟨wa.heap.size,0,none⟩) 1 1,.slice (some ⟨wa.heap.size+1,0,none⟩) 1 1,.slice (some ⟨wa.heap.size+1+1,0,none⟩) 1 1,.slice (some ⟨wa.heap.size+1+1+1,0,none⟩) 1 1,.int .i64 0,.slice (some ⟨wa.heap.size+1+1+1+1,0,none⟩) 1 1,.slice (some ⟨wa.heap.size+1+1+1+1+1,0,none⟩) 1 1,.slice (some ⟨wa.heap.size+1+1+1+1+1+1,0,none⟩) 1 1,.slice (some ⟨wa.heap.size+1+1+1+1+1+1+1,0,none⟩) 1 1,.int .i64 0,.slice (some ⟨wa.heap.size+1+1+1+1+1+1+1+1,0,none⟩) 1 1,.slice none 0 0,.slice none 0 0,.slice none 0 0,.int .i64 0,.slice (some ⟨wa.heap.size+1+1+1+1+1+1+1+1+1,0,none⟩) 2 2,.slice (some ⟨wa.heap.size+1+1+1+1+1+1+1+1+1+1,0,none⟩) 2 2,.slice (some ⟨wa.heap.size+1+1+1+1+1+1+1+1+1+1+1,0,none⟩) 2 2,.slice (some ⟨wa.heap.size+1+1+1+1+1+1+1+1+1+1+1+1,0,none⟩) 2 2,.int .i64 0,.slice (some ⟨wa.heap.size+1+1+1+1+1+1+1+1+1+1+1+1+1,0,none⟩) 1 1,.slice (some ⟨wa.heap.size+1+1+1+1+1+1+1+1+1+1+1+1+1+1,0,none⟩) 1 1,.slice (some ⟨wa.heap.size+1+1+1+1+1+1+1+1+1+1+1+1+1+1+1,0,none⟩) 1 1,.slice (some ⟨wa.heap.size+1+1+1+1+1+1+1+1+1+1+1+1+1+1+1+1,0,none⟩) 1 1,.int .i64 0,.slice (some ⟨wa.heap.size+1+1+1+1+1+1+1+1+1+1+1+1+1+1+1+1+1,0,none⟩) 1 1,.slice (some ⟨wa.heap.size+1+1+1+1+1+1+1+1+1+1+1+1+1+1+1+1+1+1,0,none⟩) 1 1,.slice (some ⟨wa.heap.size+1+1+1+1+1+1+1+1+1+1+1+1+1+1+1+1+1+1+1,0,none⟩) 1 1,.slice (some ⟨wa.heap.size+1+1+1+1+1+1+1+1+1+1+1+1+1+1+1+1+1+1+1+1,0,none⟩) 1 1] 42]
theorem ten_rows {wa v:World} (hv:allocL wa (tenO wa)=v):Below wa.heap.size wa v∧∀i,i<10→∃(p:SPart) (Ao Av Ac Ai:Option Addr) (no nv nc ni co cv cc ci:Nat),v.cell? ⟨wa.heap.size+21,i*5,none⟩=some (.int .i64 p.step)∧v.cell? ⟨wa.heap.size+21,i*5+1,none⟩=some (.slice Ao no co)∧v.cell? ⟨wa.heap.size+21,i*5+2,none⟩=some (.slice Av nv cv)∧v.cell? ⟨wa.heap.size+21,i*5+3,none⟩=some (.slice Ac nc cc)∧v.cell? ⟨wa.heap.size+21,i*5+4,none⟩=some (.slice Ai ni ci)∧SmP v p Ao Av Ac Ai no nv nc ni:=by
 have h:=allocL_spec (tenO wa) wa
 rw[hv] at h
 obtain⟨h1,h2,h3⟩:=h
 refine⟨h1,fun i hi=>?_⟩
 have hr:=h3 21 _ rfl
 rcases (show i=0∨i=1∨i=2∨i=3∨i=4∨i=5∨i=6∨i=7∨i=8∨i=9 by omega) with rfl | rfl | rfl | rfl | rfl | rfl | rfl | rfl | rfl | rfl
 ·exact⟨⟨0,[],[],[],[]⟩,none,none,none,none,0,0,0,0,0,0,0,0,cell_of_row _ _ 0 _ _ _ hr,cell_of_row _ _ 1 _ _ _ hr,cell_of_row _ _ 2 _ _ _ hr,cell_of_row _ _ 3 _ _ _ hr,cell_of_row _ _ 4 _ _ _ hr,⟨rfl,rfl,rfl,rfl⟩,⟨Rd.nil_,Rd.nil_,Rd.nil_,Rd.nil_⟩,by omega⟩
 ·exact⟨⟨2000,[],[],[],[]⟩,none,none,none,none,0,0,0,0,0,0,0,0,cell_of_row _ _ 5 _ _ _ hr,cell_of_row _ _ 6 _ _ _ hr,cell_of_row _ _ 7 _ _ _ hr,cell_of_row _ _ 8 _ _ _ hr,cell_of_row _ _ 9 _ _ _ hr,⟨rfl,rfl,rfl,rfl⟩,⟨Rd.nil_,Rd.nil_,Rd.nil_,Rd.nil_⟩,by omega⟩
 ·exact⟨⟨2001,[],[],[],[]⟩,none,none,none,none,0,0,0,0,0,0,0,0,cell_of_row _ _ 10 _ _ _ hr,cell_of_row _ _ 11 _ _ _ hr,cell_of_row _ _ 12 _ _ _ hr,cell_of_row _ _ 13 _ _ _ hr,cell_of_row _ _ 14 _ _ _ hr,⟨rfl,rfl,rfl,rfl⟩,⟨Rd.nil_,Rd.nil_,Rd.nil_,Rd.nil_⟩,by omega⟩
 ·exact⟨⟨(-1),[],[],[],[]⟩,none,none,none,none,0,0,0,0,0,0,0,0,cell_of_row _ _ 15 _ _ _ hr,cell_of_row _ _ 16 _ _ _ hr,cell_of_row _ _ 17 _ _ _ hr,cell_of_row _ _ 18 _ _ _ hr,cell_of_row _ _ 19 _ _ _ hr,⟨rfl,rfl,rfl,rfl⟩,⟨Rd.nil_,Rd.nil_,Rd.nil_,Rd.nil_⟩,by omega⟩
 ·exact⟨⟨0,[511],[4611686018427387904],[true],[(false,(-5))]⟩,some ⟨wa.heap.size,0,none⟩,some ⟨wa.heap.size+1,0,none⟩,some ⟨wa.heap.size+1+1,0,none⟩,some ⟨wa.heap.size+1+1+1,0,none⟩,1,1,1,1,1,1,1,1,cell_of_row _ _ 20 _ _ _ hr,cell_of_row _ _ 21 _ _ _ hr,cell_of_row _ _ 22 _ _ _ hr,cell_of_row _ _ 23 _ _ _ hr,cell_of_row _ _ 24 _ _ _ hr,⟨rfl,rfl,rfl,rfl⟩,⟨Rd.of_block (h3 0 _ rfl),Rd.of_block (h3 1 _ rfl),Rd.of_block (h3 2 _ rfl),Rd.of_block (h3 3 _ rfl)⟩,by omega⟩
 ·exact⟨⟨0,[512],[1],[true],[(false,0)]⟩,some ⟨wa.heap.size+1+1+1+1,0,none⟩,some ⟨wa.heap.size+1+1+1+1+1,0,none⟩,some ⟨wa.heap.size+1+1+1+1+1+1,0,none⟩,some ⟨wa.heap.size+1+1+1+1+1+1+1,0,none⟩,1,1,1,1,1,1,1,1,cell_of_row _ _ 25 _ _ _ hr,cell_of_row _ _ 26 _ _ _ hr,cell_of_row _ _ 27 _ _ _ hr,cell_of_row _ _ 28 _ _ _ hr,cell_of_row _ _ 29 _ _ _ hr,⟨rfl,rfl,rfl,rfl⟩,⟨Rd.of_block (h3 4 _ rfl),Rd.of_block (h3 5 _ rfl),Rd.of_block (h3 6 _ rfl),Rd.of_block (h3 7 _ rfl)⟩,by omega⟩
 ·exact⟨⟨0,[1],[],[],[]⟩,some ⟨wa.heap.size+1+1+1+1+1+1+1+1,0,none⟩,none,none,none,1,0,0,0,1,0,0,0,cell_of_row _ _ 30 _ _ _ hr,cell_of_row _ _ 31 _ _ _ hr,cell_of_row _ _ 32 _ _ _ hr,cell_of_row _ _ 33 _ _ _ hr,cell_of_row _ _ 34 _ _ _ hr,⟨rfl,rfl,rfl,rfl⟩,⟨Rd.of_block (h3 8 _ rfl),Rd.nil_,Rd.nil_,Rd.nil_⟩,by omega⟩
 ·exact⟨⟨0,[1,1],[0,0],[true,true],[(false,0),(false,0)]⟩,some ⟨wa.heap.size+1+1+1+1+1+1+1+1+1,0,none⟩,some ⟨wa.heap.size+1+1+1+1+1+1+1+1+1+1,0,none⟩,some ⟨wa.heap.size+1+1+1+1+1+1+1+1+1+1+1,0,none⟩,some ⟨wa.heap.size+1+1+1+1+1+1+1+1+1+1+1+1,0,none⟩,2,2,2,2,2,2,2,2,cell_of_row _ _ 35 _ _ _ hr,cell_of_row _ _ 36 _ _ _ hr,cell_of_row _ _ 37 _ _ _ hr,cell_of_row _ _ 38 _ _ _ hr,cell_of_row _ _ 39 _ _ _ hr,⟨rfl,rfl,rfl,rfl⟩,⟨Rd.of_block (h3 9 _ rfl),Rd.of_block (h3 10 _ rfl),Rd.of_block (h3 11 _ rfl),Rd.of_block (h3 12 _ rfl)⟩,by omega⟩
 ·exact⟨⟨0,[1],[4611686018427387905],[true],[(false,0)]⟩,some ⟨wa.heap.size+1+1+1+1+1+1+1+1+1+1+1+1+1,0,none⟩,some ⟨wa.heap.size+1+1+1+1+1+1+1+1+1+1+1+1+1+1,0,none⟩,some ⟨wa.heap.size+1+1+1+1+1+1+1+1+1+1+1+1+1+1+1,0,none⟩,some ⟨wa.heap.size+1+1+1+1+1+1+1+1+1+1+1+1+1+1+1+1,0,none⟩,1,1,1,1,1,1,1,1,cell_of_row _ _ 40 _ _ _ hr,cell_of_row _ _ 41 _ _ _ hr,cell_of_row _ _ 42 _ _ _ hr,cell_of_row _ _ 43 _ _ _ hr,cell_of_row _ _ 44 _ _ _ hr,⟨rfl,rfl,rfl,rfl⟩,⟨Rd.of_block (h3 13 _ rfl),Rd.of_block (h3 14 _ rfl),Rd.of_block (h3 15 _ rfl),Rd.of_block (h3 16 _ rfl)⟩,by omega⟩
 exact⟨⟨0,[1],[1],[true],[(true,(-1))]⟩,some ⟨wa.heap.size+1+1+1+1+1+1+1+1+1+1+1+1+1+1+1+1+1,0,none⟩,some ⟨wa.heap.size+1+1+1+1+1+1+1+1+1+1+1+1+1+1+1+1+1+1,0,none⟩,some ⟨wa.heap.size+1+1+1+1+1+1+1+1+1+1+1+1+1+1+1+1+1+1+1,0,none⟩,some ⟨wa.heap.size+1+1+1+1+1+1+1+1+1+1+1+1+1+1+1+1+1+1+1+1,0,none⟩,1,1,1,1,1,1,1,1,cell_of_row _ _ 45 _ _ _ hr,cell_of_row _ _ 46 _ _ _ hr,cell_of_row _ _ 47 _ _ _ hr,cell_of_row _ _ 48 _ _ _ hr,cell_of_row _ _ 49 _ _ _ hr,⟨rfl,rfl,rfl,rfl⟩,⟨Rd.of_block (h3 17 _ rfl),Rd.of_block (h3 18 _ rfl),Rd.of_block (h3 19 _ rfl),Rd.of_block (h3 20 _ rfl)⟩,by omega⟩
theorem statesKnown_walk (w:World):Calls Tryz.prog 3 #[] w fun e w'=>e = .returned (.bool true)∧Below w.heap.size w w':=by
 go_enter Tryz.func3,Tryz.ntmps3
 go_wp2_with fail
 refine (mill_any w).mono ?_
 rintro e y1 ⟨Ag,cg,rfl,he1,hl1,hc1,hb1⟩
 rw[show millE.length=5 from rfl] at hl1 ⊢
 have HE1:=hide he1
 have HB1:=hide hb1
 clear he1 hl1 hc1 hb1
 go_wp2
 obtain⟨u,hu⟩:∃u,(y1.alloc (.cells #[.int .i64 6,.slice Ag 5 cg] 24)).alloc (.cells #[.int .u8 3,.int .i64 9,.int .i64 0,.int .i64 0,.int .i64 0,.int .u8 1,.int .i64 9,.int .i64 0,.int .i64 2147483648,.int .i64 0] 27)=u:=⟨_,rfl⟩
 have HU:=hide (allocs2 hu)
 rw[hu]
 clear hu
 have hzu:y1.heap.size+2≤u.heap.size:=by have:=HU.out.2.1;omega
 have HEu:=hide (HE1.out.next HU.out.1)
 have HBu:=hide (HB1.out.trans (HU.out.1.mono HB1.out.size))
 go_loopw [23] (fun v23 wr=>∃i:Nat,i≤2∧v23 = .int .i64 (i:Int)∧Hid (Below u.heap.size u wr)) (fun v23 _=>2-(intOf v23).toNat)
 case atStart=>exact⟨0,by omega,rfl,hide (Below.refl _ _)⟩
 case round=>
  obtain⟨i,hi,rfl,HBr⟩:=hrel
  obtain⟨wa,rfl⟩:∃z:World,z=wr:=⟨_,rfl⟩
  by_cases hlt:i<2
  ·have hI1:(i:Int)<2:=by omega
   obtain⟨k,j1,j2,j3,j4,b0,b1,b2,b3,b4⟩:∃k j1 j2 j3 j4:Int,wa.cell? ⟨y1.heap.size+1,i*5,none⟩=some (.int .u8 k)∧wa.cell? ⟨y1.heap.size+1,i*5+1,none⟩=some (.int .i64 j1)∧wa.cell? ⟨y1.heap.size+1,i*5+2,none⟩=some (.int .i64 j2)∧wa.cell? ⟨y1.heap.size+1,i*5+3,none⟩=some (.int .i64 j3)∧wa.cell? ⟨y1.heap.size+1,i*5+4,none⟩=some (.int .i64 j4):=by
     have hr:=(HBr.out.block (y1.heap.size+1) (by omega)).trans HU.out.2.2.2
     rcases (show i=0∨i=1 by omega) with rfl | rfl
     ·exact⟨3,9,0,0,0,cell_of_row _ _ 0 _ _ _ hr,cell_of_row _ _ 1 _ _ _ hr,cell_of_row _ _ 2 _ _ _ hr,cell_of_row _ _ 3 _ _ _ hr,cell_of_row _ _ 4 _ _ _ hr⟩
     exact⟨1,9,0,2147483648,0,cell_of_row _ _ 5 _ _ _ hr,cell_of_row _ _ 6 _ _ _ hr,cell_of_row _ _ 7 _ _ _ hr,cell_of_row _ _ 8 _ _ _ hr,cell_of_row _ _ 9 _ _ _ hr⟩
   have jl:y1.heap.size+1<wa.heap.size:=by have:=HBr.out.size;omega
   go_upto_region 5 with fail
   obtain⟨x,hx⟩:∃x,wa.alloc (.cells #[.int .u8 k,.int .i64 j1,.int .i64 j2,.int .i64 j3,.int .i64 j4] 27)=x:=⟨_,rfl⟩
   have hbx:Below wa.heap.size wa x:=by rw[←hx];exact (Below.refl _ _).alloc (Nat.le_refl _) _
   have hjx:x.heap[wa.heap.size]?=some (.cells #[.int .u8 k,.int .i64 j1,.int .i64 j2,.int .i64 j3,.int .i64 j4] 27):=by rw[←hx];exact heap_alloc_last _ _
   rw[hx]
   have HBx:=hide (HBr.out.trans (hbx.mono HBr.out.size))
   have hjl:=lt_of_block hjx
   obtain⟨a0,a1,a2,a3,a4⟩:=zr5 hjx
   clear hx hbx hjx b0 b1 b2 b3 b4 jl
   obtain⟨g0,g1⟩:=zr2 ((HBx.out.block _ (by omega)).trans HU.out.2.2.1)
   have gl:y1.heap.size<x.heap.size:=by have:=HBx.out.size;omega
   go_wp2_with fail
   refine (mat1_any x Ag cg (HEu.out.next HBx.out) k j1 j2 j3 j4).mono ?_
   rintro e z ⟨s,A1,A2,A3,V,c1,c2,c3,E,rfl,hs,hz⟩
   have HSz:=hide hs
   have HBz:=hide (HBx.out.trans (hz.mono HBx.out.size))
   clear hs hz g0 g1 gl hjl a0 a1 a2 a3 a4
   go_wp2
   obtain⟨t,ht⟩:∃x,z.alloc (.cells #[.int .i64 s.st,.slice A1 V c1,.slice A2 V c2,.slice A3 V c3,.int .i64 s.sm,.int .i64 s.mo] 33)=x:=⟨_,rfl⟩
   have hbt:Below z.heap.size z t:=by rw[←ht];exact (Below.refl _ _).alloc (Nat.le_refl _) _
   have hst:t.heap[z.heap.size]?=some (.cells #[.int .i64 s.st,.slice A1 V c1,.slice A2 V c2,.slice A3 V c3,.int .i64 s.sm,.int .i64 s.mo] 33):=by rw[←ht];exact heap_alloc_last _ _
   rw[ht]
   obtain⟨Q,hQ⟩:∃Q,z.heap.size=Q:=⟨_,rfl⟩
   have HSt:=hide (HSz.out.next hbt)
   have HBt:=hide (HBz.out.trans (hbt.mono HBz.out.size))
   rw[hQ] at hst ⊢
   have hQl:=lt_of_block hst
   have HQ:=hide hst
   clear ht hbt hst hQ HSz HBz HBx HBr
   go_loopw [6] (fun v6 wr=>∃k:Nat,k≤5∧v6 = .int .i64 (k:Int)∧Hid (Below t.heap.size t wr)) (fun v6 _=>5-(intOf v6).toNat)
   case atStart=>exact⟨0,by omega,rfl,hide (Below.refl _ _)⟩
   case round=>
    obtain⟨k,hk,rfl,HBk⟩:=hrel
    obtain⟨wb,rfl⟩:∃z:World,z=wr:=⟨_,rfl⟩
    by_cases hlk:k<5
    ·have hk1:(k:Int)<5:=by omega
     have e1:IntKind.i64.wrap ((k:Int)*13)=(k:Int)*13:=IntWalk.i64_in _ (by omega)
     have e2:IntKind.u8.wrap ((k:Int)*13)=(k:Int)*13:=by show ((k:Int)*13) % 256=_;omega
     obtain⟨k1,hk2⟩:∃k1:Nat,k+1=k1:=⟨_,rfl⟩
     have e3:IntKind.i64.wrap (1+(k:Int))=(k1:Int):=by rw[IntWalk.i64_in _ (by omega)];omega
     have HK1:Hid (1≤k1∧k1≤64):=hide (by omega)
     clear hk2
     obtain⟨s0,s1,s2,s3,s4,s5⟩:=zr6 ((HBk.out.block _ hQl).trans HQ.out)
     have hQw:Q<wb.heap.size:=by have:=HBk.out.size;omega
     go_wp2_with fail
     refine ((HSt.out.next HBk.out).whole c1 c2 c3 ((k:Int)*13) (by omega) (by omega)).mono ?_
     rintro e z1 ⟨rfl,hz⟩
     have Hz1:=hide (HBk.out.trans (hz.mono HBk.out.size))
     clear hz s0 s1 s2 s3 s4 s5 hQw
     obtain⟨s0,s1,s2,s3,s4,s5⟩:=zr6 ((Hz1.out.block _ hQl).trans HQ.out)
     have hQw:Q<z1.heap.size:=by have:=Hz1.out.size;omega
     go_wp2_with fail
     refine (cuts_any z1 s A1 A2 A3 V c1 c2 c3 k1 HSt.out.2.2 HSt.out.1 (HSt.out.next Hz1.out).2.1 HK1.out.1 HK1.out.2).mono ?_
     rintro e z2 ⟨rfl,hz⟩
     have Hz2:=hide (Hz1.out.trans (hz.mono Hz1.out.size))
     clear hz s0 s1 s2 s3 s4 s5 hQw
     clear e1 e2 e3
     go_wp2
     go_loopw [7] (fun v7 wr=>∃j:Int,-1≤j∧j≤6∧v7 = .int .i64 j∧Hid (Below t.heap.size t wr)) (fun v7 _=>(6-intOf v7).toNat)
     case atStart=>exact⟨-1,by omega,by omega,rfl,Hz2⟩
     case round=>
      obtain⟨j,hj0,hj1,rfl,HBj⟩:=hrel
      obtain⟨wc,rfl⟩:∃z:World,z=wr:=⟨_,rfl⟩
      by_cases hlj:j<6
      ·have e4:IntKind.i64.wrap (61+(k:Int))=61+(k:Int):=IntWalk.i64_in _ (by omega)
       obtain⟨s0,s1,s2,s3,s4,s5⟩:=zr6 ((HBj.out.block _ hQl).trans HQ.out)
       have hQw:Q<wc.heap.size:=by have:=HBj.out.size;omega
       go_wp2_with fail
       refine ((HSt.out.next HBj.out).take c1 c2 c3 (k:Int) j).mono ?_
       rintro e z3 ⟨rfl,hz⟩
       have Hz3:=hide (HBj.out.trans (hz.mono HBj.out.size))
       clear hz s0 s1 s2 s3 s4 s5 hQw
       obtain⟨s0,s1,s2,s3,s4,s5⟩:=zr6 ((Hz3.out.block _ hQl).trans HQ.out)
       have hQw:Q<z3.heap.size:=by have:=Hz3.out.size;omega
       go_wp2_with fail
       refine ((HSt.out.next Hz3.out).take c1 c2 c3 (61+(k:Int)) j).mono ?_
       rintro e z4 ⟨rfl,hz⟩
       have Hz4:=hide (Hz3.out.trans (hz.mono Hz3.out.size))
       clear hz s0 s1 s2 s3 s4 s5 hQw
       go_wp2
       go_roundw
       case rel=>exact⟨j+1,by omega,by omega,by go_num,Hz4⟩
       case measure=>simp[intOf];omega
      go_wp2
      go_roundw
      case rel=>exact⟨k+1,by omega,by go_num,HBj⟩
      case measure=>simp[intOf];omega
    have hk1:¬(k:Int)<5:=by omega
    obtain⟨s0,s1,s2,s3,s4,s5⟩:=zr6 ((HBk.out.block _ hQl).trans HQ.out)
    have hQw:Q<wb.heap.size:=by have:=HBk.out.size;omega
    go_wp2_with fail
    have HSb:=hide (HSt.out.next HBk.out)
    refine (stake_any wb s.st s.sm s.mo A1 A2 A3 V V V c1 c2 c3 s.vals s.chg s.inb 1 0 HSt.out.2.2 HSt.out.1.1 HSt.out.1.2.1 HSt.out.1.2.2 HSb.out.2.1.vals HSb.out.2.1.chg HSb.out.2.1.inb).mono ?_
    rintro e z ⟨no,nv,nc,ni,Ao,co,Av,cv,Ac,cc,Ai,ci,hlen,hno,rfl,hin,hz⟩
    have hls:=take_lens s.st s.vals s.chg s.inb 1 0
    have hfw:=take_few s.st s.vals s.chg s.inb 1 0
    obtain⟨p,hp⟩:∃p,takeP s.st s.vals s.chg s.inb 1 0=p:=⟨_,rfl⟩
    rw[hp] at hlen hin hls hfw ⊢
    have HBn:Hid (no≤60):=hide (by have:=HSt.out.2.2;have:=HSt.out.1.1;have:=hlen.1;omega)
    have HPz:Hid (SmP z p Ao Av Ac Ai no nv nc ni):=hide ⟨hlen,hin,by obtain⟨q1,q2,q3,q4⟩:=hlen;omega⟩
    have HBz:=hide (HBk.out.trans (hz.mono HBk.out.size))
    clear hp hlen hin hls hfw hz hno HSb s0 s1 s2 s3 s4 s5 hQw
    go_upto_region 17 with fail
    obtain⟨x2,hx⟩:∃x,z.alloc (.cells #[.int .i64 p.step,.slice Ao no co,.slice Av nv cv,.slice Ac nc cc,.slice Ai ni ci] 42)=x:=⟨_,rfl⟩
    have hbx:Below z.heap.size z x2:=by rw[←hx];exact (Below.refl _ _).alloc (Nat.le_refl _) _
    have hpx:x2.heap[z.heap.size]?=some (.cells #[.int .i64 p.step,.slice Ao no co,.slice Av nv cv,.slice Ac nc cc,.slice Ai ni ci] 42):=by rw[←hx];exact heap_alloc_last _ _
    rw[hx]
    obtain⟨D,hD⟩:∃D,z.heap.size=D:=⟨_,rfl⟩
    have HPx:=hide (HPz.out.next hbx)
    have HBx2:=hide (HBz.out.trans (hbx.mono HBz.out.size))
    rw[hD] at hpx ⊢
    have HD:=hide hpx
    clear hx hbx hpx hD HPz HBz
    obtain⟨d0,d1,d2,d3,d4⟩:=zr5 HD.out
    have hDw:D<x2.heap.size:=lt_of_block HD.out
    go_wp2_with fail
    refine (sput_any x2 p Ao Av Ac Ai no nv nc ni co cv cc ci HPx.out.1 (by have:=HBn.out;omega) HPx.out.2.1).mono ?_
    rintro e y ⟨Ab,cb,nb,hbl,rfl,hrb,hcb,hcm,hz⟩
    obtain⟨bs,hbs⟩:∃bs,putOut p=bs:=⟨_,rfl⟩
    rw[hbs] at hbl hrb
    have HBL:=hide hbl
    have HRB:=hide hrb
    have HPy:=hide (HPx.out.next hz)
    have HBy:=hide (HBx2.out.trans (hz.mono HBx2.out.size))
    have HDy:=hide ((hz.block _ hDw).trans HD.out)
    have hDy:=lt_of_block HDy.out
    clear hbs hbl hrb hz HPx HBx2 HD d0 d1 d2 d3 d4 hDw
    obtain⟨cod,hcod⟩:∃c,putCode p=c:=⟨_,rfl⟩
    rw[hcod]
    clear hcod
    go_wp2
    go_loopw [12] (fun v12 wr=>∃m:Nat,m≤nb∧v12 = .int .i64 (m:Int)∧Hid (Below y.heap.size y wr)) (fun v12 _=>nb-(intOf v12).toNat)
    case atStart=>exact⟨0,by omega,rfl,hide (Below.refl _ _)⟩
    case round=>
     obtain⟨m,hm,rfl,HBm⟩:=hrel
     obtain⟨wd,rfl⟩:∃z:World,z=wr:=⟨_,rfl⟩
     by_cases hlm:m<nb
     ·have hm0:(0:Int)≤(m:Int):=by omega
      have hm1:(m:Int)<(nb:Int):=by omega
      go_wp2
      obtain⟨c9,hc9⟩:∃x,wd.alloc (.cells #[.int .u8 0,.int .u8 1,.int .u8 2,.int .u8 3,.int .u8 4,.int .u8 64,.int .u8 65,.int .u8 128,.int .u8 255] 5)=x:=⟨_,rfl⟩
      have hbc:Below wd.heap.size wd c9:=by rw[←hc9];exact (Below.refl _ _).alloc (Nat.le_refl _) _
      have hcc:c9.heap[wd.heap.size]?=some (.cells #[.int .u8 0,.int .u8 1,.int .u8 2,.int .u8 3,.int .u8 4,.int .u8 64,.int .u8 65,.int .u8 128,.int .u8 255] 5):=by rw[←hc9];exact heap_alloc_last _ _
      rw[hc9]
      have HBc:=hide (HBm.out.trans (hbc.mono HBm.out.size))
      obtain⟨C,hC⟩:∃C,wd.heap.size=C:=⟨_,rfl⟩
      rw[hC] at hcc ⊢
      have hCl:=lt_of_block hcc
      have HC:=hide hcc
      clear hc9 hbc hcc hC
      go_loopw [85] (fun v85 wr=>∃q:Nat,q≤9∧v85 = .int .i64 (q:Int)∧Hid (Below c9.heap.size c9 wr)) (fun v85 _=>9-(intOf v85).toNat)
      case atStart=>exact⟨0,by omega,rfl,hide (Below.refl _ _)⟩
      case round=>
       obtain⟨q,hq,rfl,HBq⟩:=hrel
       obtain⟨we,rfl⟩:∃z:World,z=wr:=⟨_,rfl⟩
       by_cases hlq:q<9
       ·have hq1:(q:Int)<9:=by omega
        obtain⟨d,hd⟩:=bytes9 ((HBq.out.block _ hCl).trans HC.out) hlq
        have hCw:C<we.heap.size:=by have:=HBq.out.size;omega
        have HBe:=hide (HBc.out.trans (HBq.out.mono HBc.out.size))
        have hRe:=HRB.out.next HBe.out
        have k1:=run_string_of (P:=Tryz.prog) we 45 9 5 Ab cb _ bs Tryz.underlying45 Tryz.underlying5 Tryz.underlying9 hRe
        have k2:=run_bytes_of (P:=Tryz.prog) we 9 45 5 bs Tryz.underlying9 Tryz.underlying45 Tryz.underlying5
        have hmL:m<bs.length:=by rw[HBL.out];exact hlm
        have kf:=bytesWorld_frozen we 5 bs hmL
        have kr:=bytesWorld_rd we 5 bs
        have kb:=bytesWorld_below we 5 bs
        have kz:=bytesWorld_size we 5 bs
        rw[HBL.out] at k1 k2
        obtain⟨cap,hcap⟩:∃z,grownCap we nb 0 5=z:=⟨_,rfl⟩
        rw[hcap] at k2
        obtain⟨wf,hwf⟩:∃z,bytesWorld we 5 bs=z:=⟨_,rfl⟩
        rw[hwf] at k2 kf kr kb kz
        obtain⟨X,hX⟩:∃X,we.heap.size=X:=⟨_,rfl⟩
        have HKB:Hid (Below we.heap.size we wf):=hide kb
        have hXl:X<wf.heap.size:=by omega
        rw[hX] at k2 kf kr
        have hXw:we.heap.size≤X:=by omega
        have hXe:X≤we.heap.size:=by omega
        obtain⟨v9,hv9⟩:∃v,wf.cell? ⟨X,m,none⟩=some v:=by
          obtain⟨g9,off9,hg9,_,hg8⟩:=kr (by intro h;have h1:=congrArg List.length h;rw[u8s_len] at h1;have h2:bs.length=0:=h1;omega)
          injection hg9 with hg9
          injection hg9 with h1 h2
          subst h1 h2
          exact⟨_,by rw[←Nat.zero_add m];exact hg8 m _ (u8s_get hmL)⟩
        have HKR:=hide (show Rd wf wf.heap.size (some ⟨X,0,none⟩) (u8s bs) from kr.more (by omega))
        clear hcap hwf kb kz kr hX hRe
        go_upto_region 26 with fail
        clear k1 k2 hd
        have hset:=HKR.out.set8 hmL hv9 d
        have HB6:Hid (Below c9.heap.size c9 (wf.setCell ⟨X,m,none⟩ (.int .u8 (d.toNat:Int)))):=hide ((HBq.out.trans (HKB.out.mono HBq.out.size)).setCell (p:=⟨X,m,none⟩) (by show c9.heap.size≤X;have:=HBq.out.size;omega) _)
        obtain⟨y6,hy6⟩:∃x,wf.setCell ⟨X,m,none⟩ (.int .u8 (d.toNat:Int))=x:=⟨_,rfl⟩
        have hz6:y6.heap.size=wf.heap.size:=by rw[←hy6];exact World.size_setCell _ _ _
        rw[hy6] at hset HB6 ⊢
        have HR6:Hid (Rd y6 y6.heap.size (some ⟨X,0,none⟩) (u8s (bs.set m d))):=hide (by rw[hz6];exact hset)
        have HL6:Hid ((bs.set m d).length=nb):=hide (by rw[List.length_set];exact HBL.out)
        clear hset hz6 hy6 kf hv9 HKR HKB hXl
        go_wp2_with fail
        refine (sgw_any y6 (some ⟨X,0,none⟩) (bs.set m d) nb cap HL6.out HR6.out (by omega)).mono ?_
        rintro e y7 ⟨rfl,hz⟩
        have HB7:=hide (HB6.out.trans (hz.mono HB6.out.size))
        have HR7:=hide (HR6.out.next hz)
        clear hz
        go_wp2_with fail
        refine ((SmP.zero y7 0).back 0 0 0 0 (some ⟨X,0,none⟩) (bs.set m d) nb cap HL6.out HR7.out (by omega) (m:Int) (by omega) (by omega)).mono ?_
        rintro e y8 ⟨rfl,hz⟩
        have HB8:=hide (HB7.out.trans (hz.mono HB7.out.size))
        clear hz
        go_wp2
        go_roundw
        case rel=>exact⟨q+1,by omega,by go_num,HB8⟩
        case measure=>simp[intOf];omega
       have hq1:¬(q:Int)<9:=by omega
       obtain⟨wf,rfl⟩:∃z:World,z=we:=⟨_,rfl⟩
       have HBf:=hide (HBc.out.trans (HBq.out.mono HBc.out.size))
       have HPf:=hide (HPy.out.next HBf.out)
       have HDf:=hide ((HBf.out.block D hDy).trans HDy.out)
       have hRf:=HRB.out.next HBf.out
       obtain⟨gb,ob,rfl,hgb,_⟩:=hRf (by intro h;have h1:=congrArg List.length h;rw[u8s_len,HBL.out] at h1;simp at h1;omega)
       have HRT:Hid (Rd wf.drew wf.drew.heap.size (some ⟨gb,ob,none⟩) (u8s (bs.take m))):=hide (by have h9:=hRf.take m;rw[show (u8s bs).take m=u8s (bs.take m) by simp[u8s,List.map_take]] at h9;exact h9)
       have HLT:Hid ((bs.take m).length=m):=hide (by rw[List.length_take,HBL.out];omega)
       clear hRf
       have hmc:(m:Int)≤(cb:Int):=by omega
       obtain⟨d0,d1,d2,d3,d4⟩:=zr5 HDf.out
       have hDw:D<wf.heap.size:=lt_of_block HDf.out
       go_upto_region 29 with fail
       refine wp_region_held_drew (S:=Kept wf) (by kernel_rfl) (Kept.drew wf) (fun hS0=>?_)
       refine tka 0 107 ?_
       refine tka 1 108 ?_
       refine tka 2 109 ?_
       refine tka 3 110 ?_
       refine tka 4 111 ?_
       refine ck 5 112 fun K hK=>?_
       go_simp
       refine ((HPf.out.next (Below.refl wf.heap.size wf).drew).back co cv cc ci (some ⟨gb,ob,none⟩) (bs.take m) m cb HLT.out HRT.out (by omega) (m:Int) (by omega) (by omega)).mono ?_
       rintro e z1 ⟨rfl,hz⟩
       have HE1:Hid (Below wf.heap.size wf z1):=hide ((Below.refl wf.heap.size wf).drew.trans (hz.mono (Nat.le_refl _)))
       have hS1:Kept wf z1:=Kept.of_below HE1.out
       clear hz
       go_wp2_with fail
       refine hK.out _ _ hS1 (fun hSn=>?_)
       clear hK K
       try simp only[zqd,zqe,zqf]
       refine tka 6 113 ?_
       refine wpAnyH_done (by kernel_rfl) ?_ _
       clear hS0 hS1 d0 d1 d2 d3 d4 hDw
       have HF:=hide (HBf.out.trans (HE1.out.mono HBf.out.size))
       go_wp2
       go_roundw
       case rel=>exact⟨m+1,by omega,by go_num,HF⟩
       case measure=>simp[intOf];omega
     have hm1:¬(m:Int)<(nb:Int):=by omega
     have HF:=hide (HBt.out.trans ((HBy.out.trans (HBm.out.mono HBy.out.size)).mono HBt.out.size))
     go_wp2
     go_roundw
     case rel=>exact⟨i+1,by omega,by go_num,HF⟩
     case measure=>simp[intOf];omega
  have hI1:¬(i:Int)<2:=by omega
  go_wp2
  obtain⟨v,hv⟩:∃v,(((((((((((((((((((((wa.alloc (.cells #[.int .i64 511] 3)).alloc (.cells #[.int .i64 4611686018427387904] 2)).alloc (.cells #[.bool true] 4)).alloc (.cells #[.bool false,.int .i64 (-5)] 51)).alloc (.cells #[.int .i64 512] 3)).alloc (.cells #[.int .i64 1] 2)).alloc (.cells #[.bool true] 4)).alloc (.cells #[.bool false,.int .i64 0] 51)).alloc (.cells #[.int .i64 1] 3)).alloc (.cells #[.int .i64 1,.int .i64 1] 3)).alloc (.cells #[.int .i64 0,.int .i64 0] 2)).alloc (.cells #[.bool true,.bool true] 4)).alloc (.cells #[.bool false,.int .i64 0,.bool false,.int .i64 0] 51)).alloc (.cells #[.int .i64 1] 3)).alloc (.cells #[.int .i64 4611686018427387905] 2)).alloc (.cells #[.bool true] 4)).alloc (.cells #[.bool false,.int .i64 0] 51)).alloc (.cells #[.int .i64 1] 3)).alloc (.cells #[.int .i64 1] 2)).alloc (.cells #[.bool true] 4)).alloc (.cells #[.bool true,.int .i64 (-1)] 51)).alloc (.cells #[.int .i64 0,.slice none 0 0,.slice none 0 0,.slice none 0 0,.slice none 0 0,.int .i64 2000,.slice none 0 0,.slice none 0 0,.slice none 0 0,.slice none 0 0,.int .i64 2001,.slice none 0 0,.slice none 0 0,.slice none 0 0,.slice none 0 0,.int .i64 (-1),.slice none 0 0,.slice none 0 0,.slice none 0 0,.slice none 0 0,.int .i64 0,.slice (some ⟨wa.heap.size,0,none⟩) 1 1,.slice (some ⟨wa.heap.size+1,0,none⟩) 1 1,.slice (some ⟨wa.heap.size+1+1,0,none⟩) 1 1,.slice (some ⟨wa.heap.size+1+1+1,0,none⟩) 1 1,.int .i64 0,.slice (some ⟨wa.heap.size+1+1+1+1,0,none⟩) 1 1,.slice (some ⟨wa.heap.size+1+1+1+1+1,0,none⟩) 1 1,.slice (some ⟨wa.heap.size+1+1+1+1+1+1,0,none⟩) 1 1,.slice (some ⟨wa.heap.size+1+1+1+1+1+1+1,0,none⟩) 1 1,.int .i64 0,.slice (some ⟨wa.heap.size+1+1+1+1+1+1+1+1,0,none⟩) 1 1,.slice none 0 0,.slice none 0 0,.slice none 0 0,.int .i64 0,.slice (some ⟨wa.heap.size+1+1+1+1+1+1+1+1+1,0,none⟩) 2 2,.slice (some ⟨wa.heap.size+1+1+1+1+1+1+1+1+1+1,0,none⟩) 2 2,.slice (some ⟨wa.heap.size+1+1+1+1+1+1+1+1+1+1+1,0,none⟩) 2 2,.slice (some ⟨wa.heap.size+1+1+1+1+1+1+1+1+1+1+1+1,0,none⟩) 2 2,.int .i64 0,.slice (some ⟨wa.heap.size+1+1+1+1+1+1+1+1+1+1+1+1+1,0,none⟩) 1 1,.slice (some ⟨wa.heap.size+1+1+1+1+1+1+1+1+1+1+1+1+1+1,0,none⟩) 1 1,.slice (some ⟨wa.heap.size+1+1+1+1+1+1+1+1+1+1+1+1+1+1+1,0,none⟩) 1 1,.slice (some ⟨wa.heap.size+1+1+1+1+1+1+1+1+1+1+1+1+1+1+1+1,0,none⟩) 1 1,.int .i64 0,.slice (some ⟨wa.heap.size+1+1+1+1+1+1+1+1+1+1+1+1+1+1+1+1+1,0,none⟩) 1 1,.slice (some ⟨wa.heap.size+1+1+1+1+1+1+1+1+1+1+1+1+1+1+1+1+1+1,0,none⟩) 1 1,.slice (some ⟨wa.heap.size+1+1+1+1+1+1+1+1+1+1+1+1+1+1+1+1+1+1+1,0,none⟩) 1 1,.slice (some ⟨wa.heap.size+1+1+1+1+1+1+1+1+1+1+1+1+1+1+1+1+1+1+1+1,0,none⟩) 1 1] 42)=v:=⟨_,rfl⟩
  have ht:=ten_rows (wa:=wa) (v:=v) hv
  rw[hv]
  have HBv:=hide (HBr.out.trans (ht.1.mono HBr.out.size))
  have hvl:wa.heap.size+1+1+1+1+1+1+1+1+1+1+1+1+1+1+1+1+1+1+1+1+1<v.heap.size:=by have h9:=(allocL_spec (tenO wa) wa).2.1;rw[show allocL wa (tenO wa)=v from hv,show (tenO wa).length=22 from rfl] at h9;omega
  obtain⟨B,hB⟩:∃B,wa.heap.size+1+1+1+1+1+1+1+1+1+1+1+1+1+1+1+1+1+1+1+1+1=B:=⟨_,rfl⟩
  have HT:Hid (∀i,i<10→∃(p:SPart) (Ao Av Ac Ai:Option Addr) (no nv nc ni co cv cc ci:Nat),v.cell? ⟨B,i*5,none⟩=some (.int .i64 p.step)∧v.cell? ⟨B,i*5+1,none⟩=some (.slice Ao no co)∧v.cell? ⟨B,i*5+2,none⟩=some (.slice Av nv cv)∧v.cell? ⟨B,i*5+3,none⟩=some (.slice Ac nc cc)∧v.cell? ⟨B,i*5+4,none⟩=some (.slice Ai ni ci)∧SmP v p Ao Av Ac Ai no nv nc ni):=hide (by rw[←hB];exact ht.2)
  rw[hB] at hvl ⊢
  clear hv ht hB
  go_loopw [154] (fun v154 wr=>∃n:Nat,n≤10∧v154 = .int .i64 (n:Int)∧Hid (Below v.heap.size v wr)) (fun v154 _=>10-(intOf v154).toNat)
  case atStart=>exact⟨0,by omega,rfl,hide (Below.refl _ _)⟩
  case round=>
   obtain⟨n,hn,rfl,HBn⟩:=hrel
   obtain⟨wb,rfl⟩:∃z:World,z=wr:=⟨_,rfl⟩
   by_cases hln:n<10
   ·have hn1:(n:Int)<10:=by omega
    obtain⟨p,Ao,Av,Ac,Ai,no,nv,nc,ni,co,cv,cc,ci,q0,q1,q2,q3,q4,hp⟩:=HT.out n hln
    have HP:=hide hp
    have b0:=(HBn.out.cell hvl).trans q0
    have b1:=(HBn.out.cell hvl).trans q1
    have b2:=(HBn.out.cell hvl).trans q2
    have b3:=(HBn.out.cell hvl).trans q3
    have b4:=(HBn.out.cell hvl).trans q4
    have hBw:B<wb.heap.size:=by have:=HBn.out.size;omega
    clear q0 q1 q2 q3 q4 hp
    go_upto_region 35 with fail
    obtain⟨t,ht⟩:∃x,wb.alloc (.cells #[.int .i64 p.step,.slice Ao no co,.slice Av nv cv,.slice Ac nc cc,.slice Ai ni ci] 42)=x:=⟨_,rfl⟩
    have hbt:Below wb.heap.size wb t:=by rw[←ht];exact (Below.refl _ _).alloc (Nat.le_refl _) _
    have hpt:t.heap[wb.heap.size]?=some (.cells #[.int .i64 p.step,.slice Ao no co,.slice Av nv cv,.slice Ac nc cc,.slice Ai ni ci] 42):=by rw[←ht];exact heap_alloc_last _ _
    rw[ht]
    obtain⟨D,hD⟩:∃D,wb.heap.size=D:=⟨_,rfl⟩
    have HPt:=hide ((HP.out.next HBn.out).next hbt)
    have HBt:=hide (HBn.out.trans (hbt.mono HBn.out.size))
    rw[hD] at hpt ⊢
    have hDt:=lt_of_block hpt
    have HD:=hide hpt
    have H0:=hide (Below.refl t.heap.size t)
    clear ht hbt hpt hD b0 b1 b2 b3 b4 hBw
    obtain⟨d0,d1,d2,d3,d4⟩:=zr5 HD.out
    have hDw:D<t.heap.size:=lt_of_block HD.out
    go_wp2_with fail
    refine (HPt.out.put co cv cc ci).mono ?_
    rintro e z1 ⟨rfl,hz⟩
    have Hz1:=hide (H0.out.trans (hz.mono H0.out.size))
    clear hz d0 d1 d2 d3 d4 hDw
    have HD1:=hide ((Hz1.out.block _ hDt).trans HD.out)
    obtain⟨d0,d1,d2,d3,d4⟩:=zr5 HD1.out
    have hDw:D<z1.heap.size:=lt_of_block HD1.out
    go_wp2_with fail
    refine ((HPt.out.next Hz1.out).back co cv cc ci none [] 0 0 rfl Rd.nil_ (by decide) 3 (by decide) (by decide)).mono ?_
    rintro e z2 ⟨rfl,hz⟩
    have Hz2:=hide (Hz1.out.trans (hz.mono Hz1.out.size))
    clear hz d0 d1 d2 d3 d4 hDw
    have HD2:=hide ((Hz2.out.block _ hDt).trans HD.out)
    obtain⟨d0,d1,d2,d3,d4⟩:=zr5 HD2.out
    have hDw:D<z2.heap.size:=lt_of_block HD2.out
    go_wp2_with fail
    obtain⟨z3,h3⟩:∃x,z2.alloc (.cells #[.int .i64 p.step,.slice Ao no co,.slice Av nv cv,.slice Ac nc cc,.slice Ai ni ci] 42)=x:=⟨_,rfl⟩
    have hb3:Below z2.heap.size z2 z3:=by rw[←h3];exact (Below.refl _ _).alloc (Nat.le_refl _) _
    have hp3:z3.heap[z2.heap.size]?=some (.cells #[.int .i64 p.step,.slice Ao no co,.slice Av nv cv,.slice Ac nc cc,.slice Ai ni ci] 42):=by rw[←h3];exact heap_alloc_last _ _
    have HB3:=hide (Hz2.out.trans (hb3.mono Hz2.out.size))
    rw[h3]
    refine (sjw_any z3 (some ⟨z2.heap.size,0,none⟩) [p] 1 1 rfl ((HPt.out.next HB3.out).row hp3) (Nat.le_refl _) (by decide)).mono ?_
    rintro e z4 ⟨rfl,hz⟩
    have HF:=hide (HBt.out.trans ((HB3.out.trans (hz.mono HB3.out.size)).mono HBt.out.size))
    clear hz h3 hb3 hp3 d0 d1 d2 d3 d4 hDw
    go_wp2
    go_roundw
    case rel=>exact⟨n+1,by omega,by go_num,HF⟩
    case measure=>simp[intOf];omega
   have hn1:¬(n:Int)<10:=by omega
   obtain⟨a1,a1i,a1z,a1s,a1b⟩:=info_parts (show (Tryz.prog.info? 2).map (fun i=>(i.zero,i.size,i.bytes))=some (some (.int .i64 0),1,8) by kernel_rfl)
   have hmk:∀w:World,(Instr.makeSlice 29 (.int .i64 2) (.int .i64 2)).run Tryz.prog w = .ok (.slice (some ⟨w.heap.size,0,none⟩) 2 2) (w.alloc (.cells #[.int .i64 0,.int .i64 0] 2)):=fun w=>by
     have h:=make_i w 2 a1 a1i a1z a1s a1b (by decide)
     rw[show madeCells #[.int .i64 0] 2=#[.int .i64 0,.int .i64 0] from by first | kernel_rfl | (unfold madeCells;rfl)] at h
     exact h
   go_wp2_with fail
   refine (SmS.take (s:=⟨0,[],[],[],0,0⟩) (V:=0) ⟨⟨rfl,rfl,rfl⟩,⟨Rd.nil_,Rd.nil_,Rd.nil_⟩,by decide⟩ 0 0 0 1 0).mono ?_
   rintro e z1 ⟨rfl,hz⟩
   have H1:=hide (HBn.out.trans (hz.mono HBn.out.size))
   clear hz
   go_wp2_with fail
   obtain⟨z2,h2⟩:∃x,z1.alloc (.cells #[.int .i64 0,.int .i64 0] 2)=x:=⟨_,rfl⟩
   have hb2:Below z1.heap.size z1 z2:=by rw[←h2];exact (Below.refl _ _).alloc (Nat.le_refl _) _
   have hp2:z2.heap[z1.heap.size]?=some (.cells #[.int .i64 0,.int .i64 0] 2):=by rw[←h2];exact heap_alloc_last _ _
   rw[h2]
   have H2:=hide (H1.out.trans (hb2.mono H1.out.size))
   refine (statesTake_go z2 0 0 0 (some ⟨z1.heap.size,0,none⟩) none none 2 0 0 2 0 0 [0,0] [] [] 1 0 rfl rfl rfl (Rd.of_block hp2) Rd.nil_ Rd.nil_ (by decide) (by decide) (by decide)).mono ?_
   rintro e z3 ⟨rfl,hz⟩
   have H3:=hide (H2.out.trans (hz.mono H2.out.size))
   clear hz h2 hb2 hp2
   go_wp2_with fail
   refine (sjw_any z3 none [] 0 0 rfl (PRow.nil _ _) (Nat.le_refl _) (by decide)).mono ?_
   rintro e z4 ⟨rfl,hz⟩
   have H4:=hide (H3.out.trans (hz.mono H3.out.size))
   clear hz
   go_wp2_with fail
   refine (works_any z4).mono ?_
   rintro e z5 ⟨rfl,hz⟩
   have HF:=hide (HBu.out.trans ((HBv.out.trans ((H4.out.trans (hz.mono H4.out.size)).mono HBv.out.size)).mono HBu.out.size))
   clear hz
   go_wp2
   go_ret
   exact⟨rfl,HF.out⟩
end Go.Proofs.YtpojjmbalgmcoaaGreat

/- Lemmas: Mem, Kep, Kbl, Row2, Edg, Msg, New. -/
import Derived.WalkKit
import Derived.Deep.Draws
import Derived.Deep.WholeRow
import Derived.Laws.IdiomStrings
import Derived.Lib.SlBytesConst
import Derived.Maps.AppendAt
set_option linter.unusedVariables false
set_option linter.unusedSimpArgs false
set_option maxRecDepth 100000
set_option maxHeartbeats 16000000
namespace Go.Proofs.YtpojjmbalgmcoaaGreat
open Go.RowKit
theorem hide {p:Prop} (h:p):Hid p:=h
def Rd (w:World) (B:Nat) (A:Option Addr) (xs:List Value):Prop:=
 xs≠[]→∃b off,A=some ⟨b,off,none⟩∧b<B∧∀j u,xs[j]?=some u→w.cell? ⟨b,off+j,none⟩=some u
section
variable {w w':World} {B B':Nat} {A:Option Addr} {xs:List Value}
theorem Rd.nil_:Rd w B A []:=fun h=>absurd rfl h
theorem Rd.at_ {k:Nat} (h:Rd w B A xs) (hk:k<xs.length):∃b off,A=some ⟨b,off,none⟩∧b<B∧∀j u,xs[j]?=some u→w.cell? ⟨b,off+j,none⟩=some u:=
 h (fun e=>by subst e;simp at hk)
theorem Rd.cell {b off:Nat} (h:Rd w B (some ⟨b,off,none⟩) xs) {j:Nat} {u:Value} (hu:xs[j]?=some u):w.cell? ⟨b,off+j,none⟩=some u:=by
 obtain⟨b',off',e,_,hc⟩:=h (fun e=>by subst e;simp at hu)
 injection e with e
 injection e with e1 e2
 subst e1 e2
 exact hc j u hu
theorem Rd.keep (h:Rd w B A xs) (hk:∀p:Addr,p.block<B→w'.cell? p=w.cell? p):Rd w' B A xs:=fun hn=>by
 obtain⟨b,off,e,hb,hc⟩:=h hn
 exact⟨b,off,e,hb,fun j u hu=>(hk _ hb).trans (hc j u hu)⟩
theorem Rd.more (h:Rd w B A xs) (hB:B≤B'):Rd w B' A xs:=fun hn=>by
 obtain⟨b,off,e,hb,hc⟩:=h hn
 exact⟨b,off,e,by omega,hc⟩
theorem Rd.below (h:Rd w B A xs) (hb:Below B w w'):Rd w' B A xs:=h.keep fun _ hp=>hb.cell hp
theorem Rd.below' (h:Rd w B A xs) (hb:Below B' w w') (hB:B≤B'):Rd w' B A xs:=h.keep fun _ hp=>hb.cell (Nat.lt_of_lt_of_le hp hB)
theorem Rd.drewN (h:Rd w B A xs) (k:Nat):Rd (w.drewN k) B A xs:=h
theorem Rd.drew (h:Rd w B A xs):Rd w.drew B A xs:=h
theorem Rd.alloc (h:Rd w B A xs) (hB:B≤w.heap.size) (o:Obj):Rd (w.alloc o) B A xs:=h.keep fun p hp=>World.cell?_alloc_lt w o p (by omega)
theorem Rd.cut (h:Rd w B A xs) {k cap:Nat} (hk:k≤xs.length) (hc:xs.length≤cap) :
  Rd w B (if cap=k then A else A.map (·.add k)) (xs.drop k):=fun hn=>by
 have hlt:k<xs.length:=by
  rcases Nat.lt_or_ge k xs.length with hlt | hge
  ·exact hlt
  exact absurd (List.drop_eq_nil_of_le hge) hn
 obtain⟨b,off,rfl,hb,hcell⟩:=h (fun e=>by subst e;simp at hlt)
 rw[if_neg (by omega)]
 refine⟨b,off+k,by simp only[Option.map_some,Addr.add];split <;> simp_all,hb,fun j u hu=>?_⟩
 rw[List.getElem?_drop] at hu
 rw[Nat.add_assoc]
 exact hcell _ u hu
theorem Rd.take (h:Rd w B A xs) (k:Nat):Rd w B A (xs.take k):=fun hn=>by
 obtain⟨b,off,e,hb,hc⟩:=h (fun e=>by subst e;simp at hn)
 refine⟨b,off,e,hb,fun j u hu=>hc j u ?_⟩
 rw[List.getElem?_take] at hu
 split at hu
 ·exact hu
 cases hu
end
theorem Rd.new (w:World) (C:Array Value) (t:TypeId) (fr:Nat×Nat):Rd (w.alloc (.cells C t fr)) (w.heap.size+1) (some ⟨w.heap.size,0,none⟩) C.toList:=fun _=>
 ⟨w.heap.size,0,rfl,by omega,fun j u hu=>by rw[Nat.zero_add,World.cell?_alloc_mark,←hu];simp⟩
theorem add_plain (b o j:Nat):(⟨b,o,none⟩:Addr).add j=⟨b,o+j,none⟩:=by unfold Addr.add;split <;> simp_all
section
variable {w w':World} {B:Nat} {A:Option Addr} {xs:List Value}
theorem Rd.setCell (h:Rd w B A xs) {p:Addr} (hB:B≤p.block) (u:Value):Rd (w.setCell p u) B A xs:=
 h.keep fun q hq=>World.cell?_setCell_other w p q u (fun e=>by subst e;omega)
theorem Rd.grown (h:Rd w B A xs) {row:Option Nat} (hg:w.grownBy w' row) (hB:B≤w.heap.size) (hr:∀g,row=some g→B≤g):Rd w' B A xs:=
 h.keep fun p hp=>World.cell?_of_block (hg.block p.block (by omega) (fun e=>by have:=hr _ e.symm;omega))
end
theorem own_form {w:World} {base:Nat} {e:TypeId} {size n:Nat} {v:Value} {xs:List Value} (h:w.ownsRow base e size v n xs):∃A c,v = .slice A n c:=by
 rcases h.2 with ⟨rfl,rfl⟩ | ⟨g,cap,cur,rfl,_⟩
 ·exact⟨_,_,rfl⟩
 exact⟨_,_,rfl⟩
theorem own_addr {w:World} {base:Nat} {e:TypeId} {size n c:Nat} {A:Option Addr} {xs:List Value} (h:w.ownsRow base e size (.slice A n c) n xs) (hn:0<n):∃g,A=some ⟨g,0,none⟩∧base≤g∧g<w.heap.size∧n≤c:=by
 rcases h.2 with ⟨_,rfl⟩ | ⟨g,cap,cur,hv,hb,hg,hnc,_⟩
 ·omega
 injection hv with h1 _ h3
 subst h1 h3
 exact⟨g,rfl,hb,lt_of_block hg,hnc⟩
theorem own_cap {w:World} {base:Nat} {e:TypeId} {size n c:Nat} {A:Option Addr} {xs:List Value} (h:w.ownsRow base e size (.slice A n c) n xs):n≤c:=by
 rcases h.2 with ⟨_,rfl⟩ | ⟨g,cap,cur,hv,hb,hg,hnc,_⟩
 ·omega
 injection hv with h1 _ h3
 subst h1 h3
 exact hnc
theorem Rd.of_own {w:World} {base:Nat} {e:TypeId} {size n c:Nat} {A:Option Addr} {xs:List Value} (h:w.ownsRow base e size (.slice A n c) n xs):Rd w w.heap.size A xs:=fun hn=>by
 have hlen:=h.1
 have hpos:0<n:=by
  rcases Nat.eq_zero_or_pos n with h0 | h0
  ·subst h0
   rw[Nat.zero_mul] at hlen
   exact absurd (List.eq_nil_of_length_eq_zero hlen) hn
  exact h0
 obtain⟨g,rfl,_,hlt,_⟩:=own_addr h hpos
 refine⟨g,0,rfl,hlt,fun j u hu=>?_⟩
 rw[Nat.zero_add]
 have hj:j<xs.length:=(List.getElem?_eq_some_iff.1 hu).1
 exact (h.cellAt j (by omega)).trans hu
theorem own_base {w:World} {base base':Nat} {e:TypeId} {size n:Nat} {v:Value} {xs:List Value} (h:w.ownsRow base e size v n xs) (hb:base'≤base):w.ownsRow base' e size v n xs:=by
 refine⟨h.1,?_⟩
 rcases h.2 with h0 | ⟨g,cap,cur,hv,hg,hr⟩
 ·exact .inl h0
 exact .inr ⟨g,cap,cur,hv,Nat.le_trans hb hg,hr⟩
theorem own_below {w w':World} {base B:Nat} {e:TypeId} {size n:Nat} {v:Value} {xs:List Value} (h:w.ownsRow base e size v n xs) (hb:Below B w w') (hB:∀g,v.ownBlock=some g→g<B):w'.ownsRow base e size v n xs:=by
 refine⟨h.1,?_⟩
 rcases h.2 with h0 | ⟨g,cap,cur,hv,hg,hc,hr⟩
 ·exact .inl h0
 exact .inr ⟨g,cap,cur,hv,hg,(hb.block g (hB g (by rw[hv];rfl))).trans hc,hr⟩
section
variable {P:Program} {w:World}
theorem run_app_nil (base:Nat) (t ty e:TypeId) (i:TypeInfo) (size:Nat) (ht:P.underlying t=some (.slice e)) (hi:P.info? e=some i)
  (v:Value) (n:Nat) (xs:List Value) (hown:w.ownsRow base e size v n xs) (c:Nat):(Builtin.append_ #[t,t] ty #[v,.slice none 0 c]).run P w = .ok v w:=by
 rcases hown.2 with ⟨rfl,rfl⟩ | ⟨g,cap,cur,rfl,_,_,hnc,_⟩
 ·simp[Builtin.append_,run_underlying ht,sizeOf,typeInfo,hi,Builtin.lenOf,Builtin.firstCells]
 simp[Builtin.append_,run_underlying ht,sizeOf,typeInfo,hi,Builtin.lenOf,Builtin.firstCells,hnc,storeCells]
theorem run_app (base:Nat) (t ty e:TypeId) (i:TypeInfo) (z:Value) (size bytes:Nat) (ht:P.underlying t=some (.slice e)) (hi:P.info? e=some i) (hz:i.zero=some z)
  (hsize:i.size=size) (hby:i.bytes=bytes) (hzs:z.cells.size=size) (hsz:0<size)
  (v:Value) (n:Nat) (xs:List Value) (hown:w.ownsRow base e size v n xs)
  (B:Nat) (A:Option Addr) (m c:Nat) (news:List Value) (hl:news.length=m*size) (hr:Rd w B A news) (h1:∀u∈news,u.oneCell'=true)
  (h63:n+m≤maxLen) (hbytes:(n+m)*bytes≤140737488355328) (hbase:base≤w.heap.size) :
  ∃A' c' w',(Builtin.append_ #[t,t] ty #[v,.slice A m c]).run P w = .ok (.slice A' (n+m) c') w'∧w'.ownsRow base e size (.slice A' (n+m) c') (n+m) (xs ++ news)∧w.grownBy w' v.ownBlock ∧
   ((Value.slice A' (n+m) c').ownBlock=v.ownBlock∨(Value.slice A' (n+m) c').ownBlock=some w.heap.size):=by
 rcases A with _ | ad
 ·have hn:news=[]:=by
   rcases Classical.em (news=[]) with h | h
   ·exact h
   obtain⟨b,off,h,_⟩:=hr h
   cases h
  subst hn
  have hm:m=0:=by
   rcases Nat.eq_zero_or_pos m with h0 | h0
   ·exact h0
   have:=Nat.mul_pos h0 hsz
   simp at hl
   omega
  subst hm
  obtain⟨A',c',rfl⟩:=own_form hown
  exact⟨A',c',w,run_app_nil base t ty e i size ht hi _ n xs hown c,by simpa using hown,World.grownBy.refl w _,.inl rfl⟩
 have hcells:∀j u,news[j]?=some u→w.cell? (ad.add j)=some u:=by
  intro j u hu
  obtain⟨b,off,h,_,hc⟩:=hr (fun e=>by subst e;simp at hu)
  injection h with h
  subst h
  rw[add_plain]
  exact hc j u hu
 obtain⟨v',w',hrun,h2,h3,_,h5⟩:=run_append_own_at (P:=P) w base t ty e i z size bytes ht hi hz hsize hby hzs hsz v n xs hown ad m c news hl hcells h1 h63 hbytes hbase
 obtain⟨A',c',rfl⟩:=own_form h2
 exact⟨A',c',w',hrun,h2,h3,h5⟩
theorem wpList_app {ops:Array Oper} {rest:List Oper} {o:Oper} {a:Act} {Q:Exit→Act→World→Prop} (hgd:o.guard=none) (s x:Operand) (t:TypeId)
  (ho:o.op = .call { callee:=.builtin .append,args:=#[s,x],argTypes:=#[t,t] })
  (base:Nat) (e:TypeId) (i:TypeInfo) (z:Value) (size bytes:Nat) (ht:P.underlying t=some (.slice e)) (hi:P.info? e=some i) (hz:i.zero=some z)
  (hsize:i.size=size) (hby:i.bytes=bytes) (hzs:z.cells.size=size) (hsz:0<size)
  (v:Value) (n:Nat) (xs:List Value) (hs:a.eval s=v) (hown:w.ownsRow base e size v n xs)
  (B:Nat) (A:Option Addr) (m c:Nat) (news:List Value) (hx:a.eval x = .slice A m c) (hl:news.length=m*size) (hr:Rd w B A news) (h1:∀u∈news,u.oneCell'=true)
  (h63:n+m≤maxLen) (hbytes:(n+m)*bytes≤140737488355328) (hbase:base≤w.heap.size)
  (h:∀A' c' w',w'.ownsRow base e size (.slice A' (n+m) c') (n+m) (xs ++ news)→w.grownBy w' v.ownBlock →
   ((Value.slice A' (n+m) c').ownBlock=v.ownBlock∨(Value.slice A' (n+m) c').ownBlock=some w.heap.size)→wpList P ops Q rest (a.put o.dst (.slice A' (n+m) c')) w'):wpList P ops Q (o :: rest) a w:=by
 refine wpList_plain hgd fun K hK=>?_
 obtain⟨A',c',w',hrun,h2,h3,h4⟩:=run_app (P:=P) (w:=w) base t o.type e i z size bytes ht hi hz hsize hby hzs hsz v n xs hown B A m c news hl hr h1 h63 hbytes hbase
 unfold Oper.wp execOp
 simp only[ho,resolve,invoke,builtin,Sem.run_bind,Sem.run_pure,Result.andThen_ok,List.map_toArray,List.map_cons,List.map_nil,hs,hx,hrun]
 exact hK _ _ (h A' c' w' h2 h3 h4)
end
theorem app_below {w w0 w':World} {base B:Nat} {e:TypeId} {size n:Nat} {v:Value} {xs:List Value} (hb:Below B w0 w) (hown:w.ownsRow base e size v n xs) (hg:w.grownBy w' v.ownBlock) (hB:B≤w.heap.size) (hbase:B≤base):Below B w0 w':=
 hb.grown hg hB (fun k hk=>Nat.le_trans hbase (hown.lt k hk).1)
theorem below_undrew {B:Nat} {a w:World} (h:Below B a.drew w):Below B a w:=⟨h.os,h.tape,h.output,h.size,h.block⟩
theorem below_drewN {B:Nat} {a w:World} (h:Below B a w) (n:Nat):Below B a (w.drewN n):=⟨h.os,h.tape,h.output,h.size,h.block⟩
def u8s (bs:List UInt8):List Value:=bs.map fun c => .int .u8 (c.toNat:Int)
theorem u8s_len (bs:List UInt8):(u8s bs).length=bs.length:=by simp[u8s]
theorem u8s_get {bs:List UInt8} {k:Nat} (h:k<bs.length):(u8s bs)[k]?=some (.int .u8 ((bs[k]).toNat:Int)):=by simp[u8s,h]
theorem u8s_drop (bs:List UInt8) (k:Nat):(u8s bs).drop k=u8s (bs.drop k):=by simp[u8s]
theorem u8s_take (bs:List UInt8) (k:Nat):(u8s bs).take k=u8s (bs.take k):=by simp[u8s]
theorem u8s_one (bs:List UInt8):∀u∈u8s bs,u.oneCell'=true:=by
 intro u hu
 simp only[u8s,List.mem_map] at hu
 obtain⟨c,_,rfl⟩:=hu
 rfl
def bools (l:List Bool):List Value:=l.map Value.bool
theorem bools_append (a b:List Bool):bools a ++ bools b=bools (a ++ b):=by simp[bools]
theorem bools_set (l:List Bool) (k:Nat) (b:Bool):(bools l).set k (.bool b)=bools (l.set k b):=by simp[bools,List.map_set]
theorem bools_one (l:List Bool):∀u∈bools l,u.oneCell'=true:=by
 intro u hu
 simp only[bools,List.mem_map] at hu
 obtain⟨c,_,rfl⟩:=hu
 rfl
theorem u8s_append (a b:List UInt8):u8s a ++ u8s b=u8s (a ++ b):=by simp[u8s]
def Els {X:Type} (w:World) (B size:Nat) (A:Option Addr) (xs:List X) (E:List Value→X→Prop):Prop:=
 xs≠[]→∃b off,A=some ⟨b,off,none⟩∧b<B∧∀i x,xs[i]?=some x→∃cs,cs.length=size∧E cs x∧∀j u,cs[j]?=some u→w.cell? ⟨b,off+(i*size+j),none⟩=some u
section
variable {X:Type} {w w':World} {B B' size:Nat} {A:Option Addr} {xs:List X} {E E':List Value→X→Prop}
theorem Els.nil_:Els w B size A [] E:=fun h=>absurd rfl h
theorem Els.keep (h:Els w B size A xs E) (hk:∀p:Addr,p.block<B→w'.cell? p=w.cell? p) (hE:∀cs x,E cs x→E' cs x):Els w' B size A xs E':=fun hn=>by
 obtain⟨b,off,e,hb,hc⟩:=h hn
 refine⟨b,off,e,hb,fun i x hx=>?_⟩
 obtain⟨cs,hl,h1,h2⟩:=hc i x hx
 exact⟨cs,hl,hE _ _ h1,fun j u hu=>(hk _ hb).trans (h2 j u hu)⟩
theorem Els.more (h:Els w B size A xs E) (hB:B≤B'):Els w B' size A xs E:=fun hn=>by
 obtain⟨b,off,e,hb,hc⟩:=h hn
 exact⟨b,off,e,by omega,hc⟩
theorem Els.at_ (h:Els w B size A xs E) {i:Nat} (hi:i<xs.length):∃b off,A=some ⟨b,off,none⟩∧b<B:=by
 obtain⟨b,off,e,hb,_⟩:=h (fun e=>by subst e;simp at hi)
 exact⟨b,off,e,hb⟩
theorem Els.get {b off:Nat} (h:Els w B size (some ⟨b,off,none⟩) xs E) {i:Nat} {x:X} (hx:xs[i]?=some x):∃cs,cs.length=size∧E cs x∧∀j u,cs[j]?=some u→w.cell? ⟨b,off+(i*size+j),none⟩=some u:=by
 obtain⟨b',off',e,_,hc⟩:=h (fun e=>by subst e;simp at hx)
 injection e with e
 injection e with e1 e2
 subst e1 e2
 exact hc i x hx
end
theorem Els.rd {X:Type} {w:World} {B:Nat} {A:Option Addr} {xs:List X} {E:List Value→X→Prop} (h:Els w B 1 A xs E) (f:X→Value) (hf:∀cs x,E cs x→cs=[f x]):Rd w B A (xs.map f):=fun hn=>by
 obtain⟨b,off,rfl,hb,hc⟩:=h (fun e=>by subst e;simp at hn)
 refine⟨b,off,rfl,hb,fun j u hu=>?_⟩
 rw[List.getElem?_map,Option.map_eq_some_iff] at hu
 obtain⟨x,hx,rfl⟩:=hu
 obtain⟨cs,_,h1,h2⟩:=hc j x hx
 have:=h2 0 (f x) (by rw[hf _ _ h1];rfl)
 simpa using this
abbrev Row:=Option Addr×List UInt8×Nat
def rowCells (w:World) (B:Nat) (cs:List Value) (r:Row):Prop:=cs=[.slice r.1 r.2.1.length r.2.2]∧Rd w B r.1 (u8s r.2.1)
def Rows (w:World) (B:Nat) (A:Option Addr) (rs:List Row):Prop:=Els w B 1 A rs (rowCells w B)
section
variable {w w':World} {B B':Nat} {A:Option Addr} {rs:List Row}
theorem Rows.keep (h:Rows w B A rs) (hk:∀p:Addr,p.block<B→w'.cell? p=w.cell? p):Rows w' B A rs:=
 Els.keep h hk fun _ _ hE=>⟨hE.1,hE.2.keep hk⟩
theorem Rows.below (h:Rows w B A rs) (hb:Below B' w w') (hB:B≤B'):Rows w' B A rs:=h.keep fun _ hp=>hb.cell (Nat.lt_of_lt_of_le hp hB)
theorem Rows.at_ (h:Rows w B A rs) {i:Nat} (hi:i<rs.length):∃b off,A=some ⟨b,off,none⟩∧b<B:=Els.at_ h hi
theorem Rows.cell {b off:Nat} (h:Rows w B (some ⟨b,off,none⟩) rs) {i:Nat} (hi:i<rs.length):w.cell? ⟨b,off+i,none⟩=some (.slice rs[i].1 rs[i].2.1.length rs[i].2.2):=by
 obtain⟨cs,_,⟨rfl,_⟩,hc⟩:=Els.get h (List.getElem?_eq_getElem hi)
 have:=hc 0 _ rfl
 simpa using this
theorem Rows.row (h:Rows w B A rs) {i:Nat} (hi:i<rs.length):Rd w B rs[i].1 (u8s rs[i].2.1):=by
 obtain⟨b,off,rfl,_⟩:=Rows.at_ h hi
 obtain⟨cs,_,⟨_,hr⟩,_⟩:=Els.get h (List.getElem?_eq_getElem hi)
 exact hr
end
theorem Rd.of_block {w:World} {g:Nat} {cs:Array Value} {t:TypeId} {fr:Nat×Nat} (h:w.heap[g]?=some (.cells cs t fr)):Rd w w.heap.size (some ⟨g,0,none⟩) cs.toList:=fun _=>
 ⟨g,0,rfl,lt_of_block h,fun j u hu=>by rw[Nat.zero_add,cell_of_row w g j cs t fr h,←hu];simp⟩
section
variable {P:Program}
theorem run_string_of (w:World) (src dst e:TypeId) (A:Option Addr) (cap B:Nat) (bs:List UInt8) (hs:P.underlying src=some (.slice e)) (he:P.underlying e=some (.int .u8)) (hd:P.underlying dst=some .string)
  (hr:Rd w B A (u8s bs)):(convert src dst (.slice A bs.length cap)).run P w = .ok (.string ⟨bs.toArray⟩) w:=by
 rcases A with _ | a
 ·have hn:bs=[]:=by
   rcases Classical.em (bs=[]) with h | h
   ·exact h
   obtain⟨b,off,h,_⟩:=hr (fun e=>h (by simpa [u8s] using e))
   cases h
  subst hn
  rw[run_convert_bytes_string w src dst e none _ cap hs he hd]
  rfl
 refine run_convert_bytes_back w src dst e a cap bs hs he hd (fun j hj=>?_)
 obtain⟨b,off,h,_,hc⟩:=hr (fun e=>by simp[u8s] at e;subst e;simp at hj)
 injection h with h
 subst h
 rw[add_plain]
 exact hc j _ (u8s_get hj)
theorem Rd.bytesRow (w:World) (t:TypeId) (s:ByteArray) (cap:Nat) (fr:Nat×Nat):Rd (w.alloc (.cells (bytesRow s cap) t fr)) (w.heap.size+1) (some ⟨w.heap.size,0,none⟩) (u8s s.data.toList):=fun _=>
 ⟨w.heap.size,0,rfl,by omega,fun j u hu=>by
  have hj:j<s.data.size:=by
   have:=(List.getElem?_eq_some_iff.1 hu).1
   simpa [u8s] using this
  rw[Nat.zero_add,World.cell?_alloc_mark,bytesRow_at s cap j hj,←hu]
  simp only[u8s,List.getElem?_map,Array.getElem?_toList,Array.getElem?_eq_getElem hj,Option.map_some]⟩
theorem bytes_frozen (w:World) (t:TypeId) (s:ByteArray) (cap j:Nat) (hj:j<s.size) :
  (w.alloc (.cells (Go.bytesRow s cap) t ((Go.bytesRow s cap).size,(Go.bytesRow s cap).size+1))).frozen? ⟨w.heap.size,j,none⟩=false:=by
 rw[World.frozen?_alloc_mark]
 have h1:(Go.bytesRow s cap).size≥s.size:=by
  unfold Go.bytesRow
  have:s.data.size=s.size:=rfl
  simp
 rw[decide_eq_false (by omega),Bool.false_and]
def bytesWorld (w:World) (e:TypeId) (bs:List UInt8):World:=
 (w.alloc (.cells (bytesRow ⟨bs.toArray⟩ (grownCap w bs.length 0 e)) e ((bytesRow ⟨bs.toArray⟩ (grownCap w bs.length 0 e)).size,(bytesRow ⟨bs.toArray⟩ (grownCap w bs.length 0 e)).size+1))).drew
theorem run_bytes_of (w:World) (src dst e:TypeId) (bs:List UInt8) (hs:P.underlying src=some .string) (hd:P.underlying dst=some (.slice e)) (he:P.underlying e=some (.int .u8)) :
  (convert src dst (.string ⟨bs.toArray⟩)).run P w = .ok (.slice (some ⟨w.heap.size,0,none⟩) bs.length (grownCap w bs.length 0 e)) (bytesWorld w e bs):=
 run_bytes_of_string w src dst e ⟨bs.toArray⟩ hs hd he
theorem bytesWorld_size (w:World) (e:TypeId) (bs:List UInt8):(bytesWorld w e bs).heap.size=w.heap.size+1:=by
 unfold bytesWorld;simp
theorem bytesWorld_below (w:World) (e:TypeId) (bs:List UInt8):Below w.heap.size w (bytesWorld w e bs):=
 ((Below.refl _ _).alloc (Nat.le_refl _) _).drew
theorem bytesWorld_rd (w:World) (e:TypeId) (bs:List UInt8):Rd (bytesWorld w e bs) (w.heap.size+1) (some ⟨w.heap.size,0,none⟩) (u8s bs):=
 Rd.bytesRow w e ⟨bs.toArray⟩ _ _
theorem bytesWorld_frozen (w:World) (e:TypeId) (bs:List UInt8) {j:Nat} (hj:j<bs.length):(bytesWorld w e bs).frozen? ⟨w.heap.size,j,none⟩=false:=
 bytes_frozen w e ⟨bs.toArray⟩ _ j hj
end
abbrev Kept (v w:World):Prop:=∀p:Addr,p.block<v.heap.size→w.cell? p=v.cell? p
theorem Kept.refl (v:World):Kept v v:=fun _ _=>rfl
theorem Kept.drew (v:World):Kept v v.drew:=fun _ _=>rfl
theorem Kept.below {v w w':World} (h:Kept v w) (hs:v.heap.size≤w.heap.size) (hb:Below w.heap.size w w'):Kept v w':=fun p hp=>(hb.cell (Nat.lt_of_lt_of_le hp hs)).trans (h p hp)
theorem Kept.of_below {v w:World} (hb:Below v.heap.size v w):Kept v w:=fun _ hp=>hb.cell hp
theorem Rd.next {w w':World} {A:Option Addr} {xs:List Value} (h:Rd w w.heap.size A xs) (hb:Below w.heap.size w w'):Rd w' w'.heap.size A xs:=(h.below hb).more hb.size
theorem own_max {w:World} {base:Nat} {e:TypeId} {size n c:Nat} {A:Option Addr} {xs:List Value} (h:w.ownsRow base e size (.slice A n c) n xs):c≤9223372036854775807:=by
 rcases h.2 with ⟨hv,rfl⟩ | ⟨g,cap,cur,hv,hb,hg,hnc,hm,_⟩
 ·injection hv with h1 _ h3
  omega
 injection hv with h1 _ h3
 subst h3
 unfold maxLen at hm
 exact hm
theorem ret_b {x y:Bool} (h:x=y):Ending.returned (.bool x) = .returned (.bool y):=by rw[h]
theorem ret_n {k:IntKind} {x y:Int} (h:x=y):Ending.returned (.int k x) = .returned (.int k y):=by rw[h]
def eqL {α:Type} [DecidableEq α] (xs ys:List α):Bool:=decide (xs=ys)
theorem eqL_nil {α:Type} [DecidableEq α]:eqL ([]:List α) []=true:=by simp[eqL]
theorem eqL_true {α:Type} [DecidableEq α] {xs ys:List α}:eqL xs ys=true↔xs=ys:=by simp[eqL]
theorem eqL_self {α:Type} [DecidableEq α] (xs:List α):eqL xs xs=true:=by simp[eqL]
theorem eqL_len {α:Type} [DecidableEq α] {xs ys:List α} (h:¬xs.length=ys.length):eqL xs ys=false:=by
 unfold eqL
 exact decide_eq_false (fun e=>h (by rw[e]))
theorem eqL_step {α:Type} [DecidableEq α] (xs ys:List α) (i:Nat) (h:i<xs.length) (h2:i<ys.length):eqL (xs.drop i) (ys.drop i)=(decide (xs[i]=ys[i]) && eqL (xs.drop (i+1)) (ys.drop (i+1))):=by
 unfold eqL
 rw[List.drop_eq_getElem_cons h,List.drop_eq_getElem_cons h2,Bool.eq_iff_iff]
 simp only[decide_eq_true_eq,Bool.and_eq_true,List.cons.injEq]
theorem zr2 {w:World} {b:Nat} {a0 a1:Value} {l:List Value} {t:TypeId} {fr:Nat×Nat} (h:w.heap[b]?=some (.cells (a0 :: a1 :: l).toArray t fr)):w.cell? ⟨b,0,none⟩=some a0∧w.cell? ⟨b,1,none⟩=some a1:=
 ⟨by rw[cell_of_row _ _ 0 _ _ _ h];simp,by rw[cell_of_row _ _ 1 _ _ _ h];simp⟩
theorem zr3 {w:World} {b:Nat} {a0 a1 a2:Value} {l:List Value} {t:TypeId} {fr:Nat×Nat} (h:w.heap[b]?=some (.cells (a0 :: a1 :: a2 :: l).toArray t fr)):w.cell? ⟨b,0,none⟩=some a0∧w.cell? ⟨b,1,none⟩=some a1∧w.cell? ⟨b,2,none⟩=some a2:=
 ⟨by rw[cell_of_row _ _ 0 _ _ _ h];simp,by rw[cell_of_row _ _ 1 _ _ _ h];simp,by rw[cell_of_row _ _ 2 _ _ _ h];simp⟩
theorem zr5 {w:World} {b:Nat} {a0 a1 a2 a3 a4:Value} {l:List Value} {t:TypeId} {fr:Nat×Nat} (h:w.heap[b]?=some (.cells (a0 :: a1 :: a2 :: a3 :: a4 :: l).toArray t fr)):w.cell? ⟨b,0,none⟩=some a0∧w.cell? ⟨b,1,none⟩=some a1∧w.cell? ⟨b,2,none⟩=some a2∧w.cell? ⟨b,3,none⟩=some a3∧w.cell? ⟨b,4,none⟩=some a4:=
 ⟨by rw[cell_of_row _ _ 0 _ _ _ h];simp,by rw[cell_of_row _ _ 1 _ _ _ h];simp,by rw[cell_of_row _ _ 2 _ _ _ h];simp,by rw[cell_of_row _ _ 3 _ _ _ h];simp,by rw[cell_of_row _ _ 4 _ _ _ h];simp⟩
theorem zr6 {w:World} {b:Nat} {a0 a1 a2 a3 a4 a5:Value} {l:List Value} {t:TypeId} {fr:Nat×Nat} (h:w.heap[b]?=some (.cells (a0 :: a1 :: a2 :: a3 :: a4 :: a5 :: l).toArray t fr)):w.cell? ⟨b,0,none⟩=some a0∧w.cell? ⟨b,1,none⟩=some a1∧w.cell? ⟨b,2,none⟩=some a2∧w.cell? ⟨b,3,none⟩=some a3∧w.cell? ⟨b,4,none⟩=some a4∧w.cell? ⟨b,5,none⟩=some a5:=
 ⟨by rw[cell_of_row _ _ 0 _ _ _ h];simp,by rw[cell_of_row _ _ 1 _ _ _ h];simp,by rw[cell_of_row _ _ 2 _ _ _ h];simp,by rw[cell_of_row _ _ 3 _ _ _ h];simp,by rw[cell_of_row _ _ 4 _ _ _ h];simp,by rw[cell_of_row _ _ 5 _ _ _ h];simp⟩
theorem zf {w:World} {b:Nat} {cs:Array Value} {t:TypeId} (h:w.heap[b]?=some (.cells cs t)) (k:Nat):w.frozen? ⟨b,k,none⟩=false:=frozen_of_row _ _ k _ _ h
def KB (X:List Nat) (v w:World):Prop:=v.heap.size≤w.heap.size∧∀b,b<v.heap.size→b∉X→w.heap[b]?=v.heap[b]?
section
variable {X:List Nat} {v w w':World} {B:Nat}
theorem KB.refl (X:List Nat) (v:World):KB X v v:=⟨Nat.le_refl _,fun _ _ _=>rfl⟩
theorem KB.drew (h:KB X v w):KB X v w.drew:=h
theorem KB.trans (h:KB X v w) (h':KB X w w'):KB X v w':=⟨Nat.le_trans h.1 h'.1,fun b hb hx=>(h'.2 b (Nat.lt_of_lt_of_le hb h.1) hx).trans (h.2 b hb hx)⟩
theorem KB.below (h:KB X v w) (hb:Below B w w') (hB:v.heap.size≤B):KB X v w':=⟨Nat.le_trans h.1 hb.size,fun b hl hx=>(hb.block b (Nat.lt_of_lt_of_le hl hB)).trans (h.2 b hl hx)⟩
theorem KB.alloc (h:KB X v w) (o:Obj):KB X v (w.alloc o):=h.below ((Below.refl w.heap.size w).alloc (Nat.le_refl _) o) h.1
theorem KB.grown (h:KB X v w) {row:Option Nat} (hg:w.grownBy w' row) (hr:∀g,row=some g→v.heap.size≤g∨g∈X):KB X v w':=by
 refine⟨Nat.le_trans h.1 hg.size,fun b hl hx=>(hg.block b (Nat.lt_of_lt_of_le hl h.1) (fun e=>?_)).trans (h.2 b hl hx)⟩
 rcases hr b e.symm with h1 | h1
 ·omega
 exact hx h1
theorem KB.setCell (h:KB X v w) {p:Addr} (hp:v.heap.size≤p.block∨p.block∈X) (u:Value):KB X v (w.setCell p u):=by
 refine⟨by rw[World.size_setCell];exact h.1,fun b hl hx=>(Below.heap_setCell _ _ _ _ (fun e=>?_)).trans (h.2 b hl hx)⟩
 rcases hp with h1 | h1
 ·omega
 rw[←e] at h1;exact hx h1
theorem KB.cell (h:KB X v w) {p:Addr} (hl:p.block<v.heap.size) (hx:p.block∉X):w.cell? p=v.cell? p:=World.cell?_of_block (h.2 _ hl hx)
theorem KB.frozen (h:KB X v w) {p:Addr} (hl:p.block<v.heap.size) (hx:p.block∉X):w.frozen? p=v.frozen? p:=World.frozen?_of_block (h.2 _ hl hx)
theorem KB.own (h:KB X v w) {base size n:Nat} {e:TypeId} {u:Value} {xs:List Value} (ho:v.ownsRow base e size u n xs) (hx:∀g,u.ownBlock=some g→g∉X):w.ownsRow base e size u n xs:=by
 refine⟨ho.1,?_⟩
 rcases ho.2 with h0 | ⟨g,cap,cur,hv,hg,hc,hr⟩
 ·exact .inl h0
 exact .inr ⟨g,cap,cur,hv,hg,(h.2 g (lt_of_block hc) (hx g (by rw[hv];rfl))).trans hc,hr⟩
theorem KB.rd (h:KB X v w) {A:Option Addr} {xs:List Value} (hr:Rd v B A xs) (hB:B≤v.heap.size) (hx:∀b∈X,B≤b):Rd w B A xs:=hr.keep fun p hp=>h.cell (by omega) (fun hm=>by have:=hx _ hm;omega)
end
theorem own_apartA {w:World} {b1 b2:Nat} {e1 e2:TypeId} {s1 s2 n1 n2:Nat} {v1 v2:Value} {xs ys:List Value} (h1:w.ownsRow b1 e1 s1 v1 n1 xs) (h2:w.ownsRow b2 e2 s2 v2 n2 ys) (he:e1≠e2):v1.ownBlock=none∨v1.ownBlock≠v2.ownBlock:=by
 rcases h1.2 with ⟨rfl,_⟩ | ⟨g,cap,cur,rfl,_,hc,_⟩
 ·exact .inl rfl
 refine .inr fun e=>?_
 rcases h2.2 with ⟨rfl,_⟩ | ⟨g2,cap2,cur2,rfl,_,hc2,_⟩
 ·cases e
 have e:=Option.some.inj (show some g=some g2 from e)
 subst e
 rw[hc] at hc2
 injection hc2 with hc2
 injection hc2 with _ h
 exact he h
abbrev Ed:=Int×Int×Int
def Ed.value (e:Ed):Value:=.agg #[.int .i64 e.1,.int .i64 e.2.1,.int .i64 e.2.2]
def edCells (cs:List Value) (e:Ed):Prop:=cs=[.int .i64 e.1,.int .i64 e.2.1,.int .i64 e.2.2]∧(-9223372036854775808≤e.2.2∧e.2.2≤9223372036854775807)
def Eds (w:World) (B:Nat) (A:Option Addr) (es:List Ed):Prop:=Els w B 3 A es edCells
theorem Eds.kept {v w:World} {A:Option Addr} {es:List Ed} (h:Eds v v.heap.size A es) (hk:Kept v w):Eds w v.heap.size A es:=Els.keep h (fun p hp=>hk p hp) fun _ _ h=>h
theorem Eds.get {w:World} {B:Nat} {A:Option Addr} {es:List Ed} (h:Eds w B A es) {i:Nat} {e:Ed} (he:es[i]?=some e):∃b off,A=some ⟨b,off,none⟩∧b<B ∧
  w.cell? ⟨b,off+i*3,none⟩=some (.int .i64 e.1)∧w.cell? ⟨b,off+i*3+1,none⟩=some (.int .i64 e.2.1)∧w.cell? ⟨b,off+i*3+2,none⟩=some (.int .i64 e.2.2)∧-9223372036854775808≤e.2.2∧e.2.2≤9223372036854775807:=by
 obtain⟨b,off,rfl,hb⟩:=Els.at_ h (List.getElem?_eq_some_iff.1 he).1
 obtain⟨cs,hl,⟨rfl,h1⟩,hc⟩:=Els.get h he
 exact⟨b,off,rfl,hb,by simpa using hc 0 _ rfl,by simpa [Nat.add_assoc] using hc 1 _ rfl,by simpa [Nat.add_assoc] using hc 2 _ rfl,h1⟩
theorem Eds.below {w w':World} {B B':Nat} {A:Option Addr} {es:List Ed} (h:Eds w B A es) (hb:Below B' w w') (hB:B≤B'):Eds w' B A es:=Els.keep h (fun p hp=>hb.cell (Nat.lt_of_lt_of_le hp hB)) fun _ _ h=>h
theorem Eds.next {w w':World} {A:Option Addr} {es:List Ed} (h:Eds w w.heap.size A es) (hb:Below w.heap.size w w'):Eds w' w'.heap.size A es:=Els.more (h.below hb (Nat.le_refl _)) hb.size
abbrev Ms:=Int×Int
def msCells (cs:List Value) (m:Ms):Prop:=cs=[.int .i64 m.1,.int .i64 m.2]
def Mss (w:World) (B:Nat) (A:Option Addr) (l:List Ms):Prop:=Els w B 2 A l msCells
theorem Mss.get {w:World} {B:Nat} {A:Option Addr} {l:List Ms} (h:Mss w B A l) {i:Nat} {m:Ms} (he:l[i]?=some m):∃b off,A=some ⟨b,off,none⟩∧b<B ∧
  w.cell? ⟨b,off+i*2,none⟩=some (.int .i64 m.1)∧w.cell? ⟨b,off+i*2+1,none⟩=some (.int .i64 m.2):=by
 obtain⟨b,off,rfl,hb⟩:=Els.at_ h (List.getElem?_eq_some_iff.1 he).1
 obtain⟨cs,hl,h1,hc⟩:=Els.get h he
 obtain rfl:cs=[.int .i64 m.1,.int .i64 m.2]:=h1
 exact⟨b,off,rfl,hb,by simpa using hc 0 _ rfl,by simpa [Nat.add_assoc] using hc 1 _ rfl⟩
theorem Mss.below {w w':World} {B B':Nat} {A:Option Addr} {l:List Ms} (h:Mss w B A l) (hb:Below B' w w') (hB:B≤B'):Mss w' B A l:=Els.keep h (fun p hp=>hb.cell (Nat.lt_of_lt_of_le hp hB)) fun _ _ h=>h
theorem Mss.next {w w':World} {A:Option Addr} {l:List Ms} (h:Mss w w.heap.size A l) (hb:Below w.heap.size w w'):Mss w' w'.heap.size A l:=Els.more (h.below hb (Nat.le_refl _)) hb.size
def NewA (B:Nat) (A:Option Addr):Prop:=∀b off,A=some ⟨b,off,none⟩→B≤b
theorem NewA.none_ (B:Nat):NewA B none:=fun _ _ e=>by cases e
theorem NewA.mono {B C:Nat} {A:Option Addr} (h:NewA B A) (hC:C≤B):NewA C A:=fun b off e=>Nat.le_trans hC (h b off e)
theorem own_new {w:World} {base B:Nat} {e:TypeId} {size n c:Nat} {A:Option Addr} {xs:List Value} (h:w.ownsRow base e size (.slice A n c) n xs) (hB:B≤base):NewA B A:=fun b off he=>by
 subst he
 rcases h.2 with ⟨hv,_⟩ | ⟨g,cap,cur,hv,hb,_⟩
 ·injection hv with h1
  cases h1
 injection hv with h1
 injection h1 with h1
 injection h1 with h1
 subst h1
 exact Nat.le_trans hB hb
end Go.Proofs.YtpojjmbalgmcoaaGreat

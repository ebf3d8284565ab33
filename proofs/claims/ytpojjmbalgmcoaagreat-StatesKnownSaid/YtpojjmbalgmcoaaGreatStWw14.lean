/- Lemmas: Fdd. -/
import Derived.Deep.RegionHeld3
import Derived.Test.YtpojjmbalgmcoaaGreatStWw12
import Derived.Test.YtpojjmbalgmcoaaGreatStWw13
set_option linter.unusedVariables false
set_option linter.unusedSimpArgs false
set_option maxRecDepth 100000
set_option maxHeartbeats 16000000
namespace Go.Proofs.YtpojjmbalgmcoaaGreat
open Go.RowKit Go.Shelf
attribute [local go_sem] Oper.semAt_some
def be:Nat→Nat→List UInt8
 | 0,_=>[]
 | n+1,m=>be n (m / 256) ++ [UInt8.ofNat m]
theorem be_len (n m:Nat):(be n m).length=n:=by
 induction n generalizing m with
 | zero=>rfl
 | succ n ih=>simp[be,ih]
def roll (st:List Nat×Nat) (i:Nat):List Nat×Nat:=(st.1.set i (st.2 % 256),st.2 / 256)
def rolled (n m:Nat) (is:List Nat):List Nat×Nat:=is.foldl roll (List.replicate n 0,m)
theorem rolled_snoc (n m:Nat) (is:List Nat) (i:Nat):rolled n m (is ++ [i])=roll (rolled n m is) i:=by simp[rolled]
theorem roll_len (is:List Nat) (st:List Nat×Nat):(is.foldl roll st).1.length=st.1.length:=by
 induction is generalizing st with
 | nil=>rfl
 | cons i is ih=>rw[List.foldl_cons,ih];simp[roll]
theorem roll_le (is:List Nat) (st:List Nat×Nat):(is.foldl roll st).2≤st.2:=by
 induction is generalizing st with
 | nil=>exact Nat.le_refl _
 | cons i is ih=>rw[List.foldl_cons];exact Nat.le_trans (ih _) (Nat.div_le_self _ _)
theorem rolled_len (n m:Nat) (is:List Nat):(rolled n m is).1.length=n:=by
 unfold rolled
 rw[roll_len,List.length_replicate]
theorem rolled_le (n m:Nat) (is:List Nat):(rolled n m is).2≤m:=roll_le _ _
theorem roll_small (is:List Nat) (st:List Nat×Nat) (h:∀x∈st.1,x<256):∀x∈(is.foldl roll st).1,x<256:=by
 induction is generalizing st with
 | nil=>exact h
 | cons i is ih=>
  rw[List.foldl_cons]
  refine ih _ fun x hx=>?_
  rcases List.mem_or_eq_of_mem_set hx with h1 | h1
  ·exact h x h1
  subst h1;exact Nat.mod_lt _ (by decide)
theorem rolled_small (n m:Nat) (is:List Nat):∀x∈(rolled n m is).1,x<256:=roll_small _ _ (fun x hx=>by rw[List.eq_of_mem_replicate hx];decide)
theorem kpB_set {Bs b n q:Nat} {W:World} {z:Int} (hne:b≠Bs) (hq:∃v,W.cell? ⟨b,q,none⟩=some v):KpB Bs b n W (W.setCell ⟨b,q,none⟩ (.int .u8 z)):=by
 refine⟨fun v e=>(World.cell?_setCell_far W _ _ _ hne).trans e,fun j hj ⟨v,e⟩=>?_⟩
 by_cases hjq:q=j
 ·subst hjq
  obtain⟨v',e'⟩:=hq
  exact⟨z,World.cell?_setCell_same' _ _ _ (by rw[e'];rfl)⟩
 exact⟨v,(World.cell?_setCell_other W _ _ _ (fun e=>hjq (by injection e))).trans e⟩
theorem kpB_far {Bs b n:Nat} {W:World} {p:Addr} {u:Value} (h1:p.block≠Bs) (h2:p.block≠b):KpB Bs b n W (W.setCell p u):=
 ⟨fun v e=>(World.cell?_setCell_far W _ _ _ h1).trans e,fun j hj ⟨v,e⟩=>⟨v,(World.cell?_setCell_far W _ _ _ h2).trans e⟩⟩
theorem byte_mod (m:Nat):UInt8.ofNat (m % 256)=UInt8.ofNat m:=by
 apply UInt8.toNat_inj.1
 simp
theorem rolled_1 (m:Nat):(rolled 1 m (downTo 1 0)).1.map (fun j=>UInt8.ofNat j)=be 1 m:=by
 have e:downTo 1 0=[0]:=rfl
 rw[e]
 simp[rolled,roll,be,List.replicate,List.set,byte_mod]
theorem rolled_2 (m:Nat):(rolled 2 m (downTo 2 0)).1.map (fun j=>UInt8.ofNat j)=be 2 m:=by
 have e:downTo 2 0=[1,0]:=rfl
 rw[e]
 simp[rolled,roll,be,List.replicate,List.set,byte_mod]
theorem rolled_4 (m:Nat):(rolled 4 m (downTo 4 0)).1.map (fun j=>UInt8.ofNat j)=be 4 m:=by
 have e:downTo 4 0=[3,2,1,0]:=rfl
 rw[e]
 simp[rolled,roll,be,List.replicate,List.set,byte_mod]
theorem rolled_8 (m:Nat):(rolled 8 m (downTo 8 0)).1.map (fun j=>UInt8.ofNat j)=be 8 m:=by
 have e:downTo 8 0=[7,6,5,4,3,2,1,0]:=rfl
 rw[e]
 simp[rolled,roll,be,List.replicate,List.set,byte_mod]
def zs1:Array Value:=Array.replicate 1 (.int .u8 0)
theorem make1 (w:World):(Instr.makeSlice 45 (.int .i64 1) (.int .i64 1)).run Tryz.prog w = .ok (.slice (some ⟨w.heap.size,0,none⟩) 1 1) (w.alloc (.cells zs1 5)):=by kernel_rfl
theorem digits8_in (F:Fence) (n:Nat) (hf:F.fn 61) (hw:F.fn 86) (hb:F.fn 83) (hb1:F.fn 100) (hro:F.round=none) (hn:3≤n)
  (hwid:∀w,CallsIn F (n-1) Tryz.prog 86 #[] w fun e w'=>e = .returned (.int .i64 1)∧w=w') (m:Nat) (hm:m<256) (w:World) :
  CallsIn F n Tryz.prog 61 #[.int .u8 m] w fun e W'=>e = .returned (.slice (some ⟨w.heap.size+1,0,none⟩) 1 1)∧Rd W' W'.heap.size (some ⟨w.heap.size+1,0,none⟩) (u8s (be 1 m))∧w.heap.size+1<W'.heap.size∧Below w.heap.size w W':=by
 have h1:1≤n:=by omega
 have hmk:=make1
 refine callsIn_of_wp_marks Tryz.func61 rfl hf ?_ hro
 simp only[Tryz.ntmps61,List.size_toArray,List.length_cons,List.length_nil,Nat.reduceAdd,Nat.reduceSub,Array.replicate_succ,Array.replicate_zero,List.push_toArray,List.append_toArray,List.nil_append,List.cons_append]
 gi_wp2_with (first | (gi_at_call 86;refine (hwid _).mono ?_;rintro e w' ⟨rfl,rfl⟩) | (gi_at_call 83;refine (backward_in F (n-1) hb hro _ _ _ _).mono ?_;rintro e w' ⟨rfl,rfl⟩))
 obtain⟨W4,hW4⟩:∃W4,W4=((((w.alloc (.cells #[.int .u8 m] 5)).alloc (.cells zs1 5)).alloc (.cells #[.slice (some ⟨w.heap.size+1,0,none⟩) 1 1] 45)).alloc (.cells #[.slice (some ⟨w.heap.size+1,0,none⟩) 1 1] 45)):=⟨_,rfl⟩
 have c0:W4.cell? ⟨w.heap.size,0,none⟩=some (.int .u8 m):=by rw[hW4];simp[go_sem]
 have f0:W4.frozen? ⟨w.heap.size,0,none⟩=false:=by rw[hW4];simp[go_sem]
 have c1:∀j,j<1→W4.cell? ⟨w.heap.size+1,j,none⟩=some (.int .u8 (((List.replicate 1 (0:Nat))[j]?.getD 0:Nat):Int))∧W4.frozen? ⟨w.heap.size+1,j,none⟩=false:=by
  intro j hj
  have e:zs1[j]?=some (.int .u8 0):=by simp[zs1,hj]
  rw[hW4]
  constructor
  ·rw[List.getElem?_replicate,if_pos hj];simp[go_sem,e]
  simp[go_sem]
 have c2:W4.cell? ⟨w.heap.size+2,0,none⟩=some (.slice (some ⟨w.heap.size+1,0,none⟩) 1 1):=by rw[hW4];simp[go_sem]
 have c3:W4.cell? ⟨w.heap.size+3,0,none⟩=some (.slice (some ⟨w.heap.size+1,0,none⟩) 1 1):=by rw[hW4];simp[go_sem]
 have hsz:W4.heap.size=w.heap.size+4:=by rw[hW4];simp
 have hB:Below w.heap.size w W4:=by rw[hW4];exact ((((Below.refl _ w).alloc (Nat.le_refl _) _).alloc (by simp) _).alloc (by simp;omega) _).alloc (by simp;omega) _
 rw[←hW4]
 refine wpIn_rangeFunc_ownF hro h1 (gf:=100) (lb:=#[.pointer (some ⟨w.heap.size+1+1+1,0,none⟩)]) rfl hb1 (enters_of Tryz.func100 (by kernel_rfl) rfl)
  (backward_stops F (n-1) hb1 hro (by omega) (w.heap.size+3) (w.heap.size+1) 1 1 (by decide) W4 (by omega) (by omega) c3 (fun j hj=>⟨_,(c1 j hj).1⟩)) kpB_t (kpB_b (by omega) (by omega)) (Below.refl _ _) (fun _=>rfl)
  (fun pre W=>(W.cell? ⟨w.heap.size,0,none⟩=some (.int .u8 ((rolled 1 m (pre.map (·.1.1))).2:Nat))∧W.frozen? ⟨w.heap.size,0,none⟩=false∧W.cell? ⟨w.heap.size+2,0,none⟩=some (.slice (some ⟨w.heap.size+1,0,none⟩) 1 1) ∧
   ∀j,j<1→W.cell? ⟨w.heap.size+1,j,none⟩=some (.int .u8 (((rolled 1 m (pre.map (·.1.1))).1[j]?.getD 0:Nat):Int))∧W.frozen? ⟨w.heap.size+1,j,none⟩=false)∧Below w.heap.size w W)
  (fun _ _ _=>False)
  (OwnFrom.and (Own.from (fun s A B row hs hg hr=>⟨cell_kept hs.1 hg hr,(frozen_kept hs.1 hg hr).trans hs.2.1,cell_kept hs.2.2.1 hg hr,fun j hj=>⟨cell_kept (hs.2.2.2 j hj).1 hg hr,(frozen_kept (hs.2.2.2 j hj).1 hg hr).trans (hs.2.2.2 j hj).2⟩⟩) _) (ownFrom_below (by omega) (by omega)))
  (fun _ _ _ _ _ hs _ _=>hs)
  ⟨⟨c0,f0,c2,c1⟩,hB⟩
  (fun x=>{ tmps:=#[.int .u8 m,.pointer (some ⟨w.heap.size,0,none⟩),.slice none 0 0,.pointer (some ⟨w.heap.size+1+1,0,none⟩),.int .i64 (x.1.1:Int),.int .i64 1,.slice (some ⟨w.heap.size+1,0,none⟩) 1 1,.slice (some ⟨w.heap.size+1,0,none⟩) 1 1,.func (.func 100) #[] #[.pointer (some ⟨w.heap.size+1+1+1,0,none⟩)],.int .i64 (x.1.1:Int),.int .u8 x.2,undef,undef,undef,undef,undef,undef,undef,undef,undef],defers:=[] }) ?assign ?body ?done ?stop
 case assign=>
  intro l x W K hK
  gi_wp2
  exact hK
 case body=>
  rintro l pre ⟨⟨q,hq⟩,v⟩ W ⟨⟨k0,g0,k2,k1⟩,hBW⟩ _
  have kq:=k1 q hq
  obtain⟨st,hst⟩:∃st,rolled 1 m (pre.map (·.1.1))=st:=⟨_,rfl⟩
  have hL:st.1.length=1:=by rw[←hst];exact rolled_len _ _ _
  have hM:st.2≤m:=by rw[←hst];exact rolled_le _ _ _
  have hnext:rolled 1 m ((pre ++ [((⟨q,hq⟩:{ i:Nat // i<1 }),v)]).map (·.1.1))=roll st q:=by rw[List.map_append,←hst];exact rolled_snoc _ _ _ _
  rw[hst] at k0 k1 kq
  obtain⟨L,M⟩:=st
  dsimp only at k0 k1 kq hL hM hnext
  have HN:=hide hnext
  clear hst hnext
  have hI0:(0:Int)≤(q:Int):=by omega
  have hI1:(q:Int)<1:=by omega
  have kc:=kq.1
  have kf:=kq.2
  have K1:=hide k1
  clear kq k1
  gi_wp2
  have hwq:W.cell? ⟨w.heap.size+1,q,none⟩=some (.int .u8 ((L[q]?.getD 0:Nat):Int)):=kc
  refine⟨(KeepsOthers.setCell _ _ _).trans (KeepsOthers.setCell _ _ _),kpB_t (kpB_set (by omega) ⟨_,hwq⟩) (kpB_far (by show w.heap.size≠_;omega) (by show w.heap.size≠_;omega)),⟨?_,?_,?_,?_⟩,(hBW.setCell (p:=⟨w.heap.size+1,q,none⟩) (by simp) _).setCell (p:=⟨w.heap.size,0,none⟩) (Nat.le_refl _) _⟩
  ·rw[HN.out]
   exact (World.cell?_setCell_same' _ _ _ (by rw[World.cell?_setCell_far _ _ _ _ (by show w.heap.size+1≠w.heap.size;omega),k0];rfl)).trans (by simp only[roll];first | rfl | (congr 2;omega))
  ·rw[World.frozen?_setCell,World.frozen?_setCell];exact g0
  ·rw[World.cell?_setCell_far _ _ _ _ (by show w.heap.size≠w.heap.size+2;omega),World.cell?_setCell_far _ _ _ _ (by show w.heap.size+1≠w.heap.size+2;omega)];exact k2
  intro j hj
  refine⟨?_,by rw[World.frozen?_setCell,World.frozen?_setCell];exact (K1.out j hj).2⟩
  rw[HN.out,World.cell?_setCell_far _ _ _ _ (by show w.heap.size≠w.heap.size+1;omega)]
  by_cases hjq:q=j
  ·subst hjq
   exact (World.cell?_setCell_same' _ _ _ (by rw[hwq];rfl)).trans (by simp only[roll];rw[List.getElem?_set_self (by omega)];first | rfl | (congr 2;simp;omega))
  rw[World.cell?_setCell_other _ _ _ _ (fun e=>hjq (by injection e)),(K1.out j hj).1]
  simp only[roll]
  rw[List.getElem?_set_ne hjq]
 case done=>
  rintro D ys W hD hys ⟨⟨k0,g0,k2,k1⟩,hBW⟩ hK
  gi_wp2
  refine⟨by simp,.inl ⟨_,_,rfl,run_takeDeferred hK,?_⟩⟩
  have hsD:D<W.heap.size:=(Array.getElem?_eq_some_iff.1 hK).1
  have hbe:=rolled_1 m
  have hsP:(W.putObj D (.deferred none)).heap.size=W.heap.size:=by simp[World.putObj]
  refine⟨_,results_tmp rfl _ _ _,rfl,?_,?_,hBW.trans (belowK_b (w:=w) (Nat.le_refl _) W D _ _ (by omega) hK rfl rfl)⟩
  ·have hsm:=rolled_small 1 m (ys.map (·.1.1))
   have hle:=rolled_len 1 m (ys.map (·.1.1))
   rw[hys] at hsm k1 hle
   rw[←hbe]
   generalize (rolled 1 m (downTo 1 0)).1=L at k1 hsm hle
   intro _
   refine⟨_,_,rfl,by rw[hsP];omega,?_⟩
   intro j u hj
   simp only[u8s,List.map_map,List.getElem?_map,Option.map_eq_some_iff] at hj
   obtain⟨x,hx,rfl⟩:=hj
   have hj8:j<1:=by rw[←hle];exact (List.getElem?_eq_some_iff.1 hx).1
   have hx2:=hsm x (List.mem_of_getElem? hx)
   have h1:=(k1 j hj8).1
   rw[hx] at h1
   rw[Nat.zero_add]
   refine (cell_kept h1 (grownBy_putObj' _ D (.deferred none)) (fun r e=>by cases e;exact⟨_,hK,rfl⟩)).trans ?_
   simp only[Function.comp_apply,UInt8.toNat_ofNat',Option.getD_some]
   rw[Nat.mod_eq_of_lt hx2]
  rw[hsP];omega
 case stop=>
  rintro D c pre W _ _ h _
  exact h.elim
def zs2:Array Value:=Array.replicate 2 (.int .u8 0)
theorem make2 (w:World):(Instr.makeSlice 45 (.int .i64 2) (.int .i64 2)).run Tryz.prog w = .ok (.slice (some ⟨w.heap.size,0,none⟩) 2 2) (w.alloc (.cells zs2 5)):=by kernel_rfl
theorem digits16_in (F:Fence) (n:Nat) (hf:F.fn 59) (hw:F.fn 84) (hb:F.fn 83) (hb1:F.fn 100) (hro:F.round=none) (hn:3≤n)
  (hwid:∀w,CallsIn F (n-1) Tryz.prog 84 #[] w fun e w'=>e = .returned (.int .i64 2)∧w=w') (m:Nat) (hm:m<65536) (w:World) :
  CallsIn F n Tryz.prog 59 #[.int .u16 m] w fun e W'=>e = .returned (.slice (some ⟨w.heap.size+1,0,none⟩) 2 2)∧Rd W' W'.heap.size (some ⟨w.heap.size+1,0,none⟩) (u8s (be 2 m))∧w.heap.size+1<W'.heap.size∧Below w.heap.size w W':=by
 have h1:1≤n:=by omega
 have hmk:=make2
 refine callsIn_of_wp_marks Tryz.func59 rfl hf ?_ hro
 simp only[Tryz.ntmps59,List.size_toArray,List.length_cons,List.length_nil,Nat.reduceAdd,Nat.reduceSub,Array.replicate_succ,Array.replicate_zero,List.push_toArray,List.append_toArray,List.nil_append,List.cons_append]
 gi_wp2_with (first | (gi_at_call 84;refine (hwid _).mono ?_;rintro e w' ⟨rfl,rfl⟩) | (gi_at_call 83;refine (backward_in F (n-1) hb hro _ _ _ _).mono ?_;rintro e w' ⟨rfl,rfl⟩))
 obtain⟨W4,hW4⟩:∃W4,W4=((((w.alloc (.cells #[.int .u16 m] 76)).alloc (.cells zs2 5)).alloc (.cells #[.slice (some ⟨w.heap.size+1,0,none⟩) 2 2] 45)).alloc (.cells #[.slice (some ⟨w.heap.size+1,0,none⟩) 2 2] 45)):=⟨_,rfl⟩
 have c0:W4.cell? ⟨w.heap.size,0,none⟩=some (.int .u16 m):=by rw[hW4];simp[go_sem]
 have f0:W4.frozen? ⟨w.heap.size,0,none⟩=false:=by rw[hW4];simp[go_sem]
 have c1:∀j,j<2→W4.cell? ⟨w.heap.size+1,j,none⟩=some (.int .u8 (((List.replicate 2 (0:Nat))[j]?.getD 0:Nat):Int))∧W4.frozen? ⟨w.heap.size+1,j,none⟩=false:=by
  intro j hj
  have e:zs2[j]?=some (.int .u8 0):=by simp[zs2,hj]
  rw[hW4]
  constructor
  ·rw[List.getElem?_replicate,if_pos hj];simp[go_sem,e]
  simp[go_sem]
 have c2:W4.cell? ⟨w.heap.size+2,0,none⟩=some (.slice (some ⟨w.heap.size+1,0,none⟩) 2 2):=by rw[hW4];simp[go_sem]
 have c3:W4.cell? ⟨w.heap.size+3,0,none⟩=some (.slice (some ⟨w.heap.size+1,0,none⟩) 2 2):=by rw[hW4];simp[go_sem]
 have hsz:W4.heap.size=w.heap.size+4:=by rw[hW4];simp
 have hB:Below w.heap.size w W4:=by rw[hW4];exact ((((Below.refl _ w).alloc (Nat.le_refl _) _).alloc (by simp) _).alloc (by simp;omega) _).alloc (by simp;omega) _
 rw[←hW4]
 refine wpIn_rangeFunc_ownF hro h1 (gf:=100) (lb:=#[.pointer (some ⟨w.heap.size+1+1+1,0,none⟩)]) rfl hb1 (enters_of Tryz.func100 (by kernel_rfl) rfl)
  (backward_stops F (n-1) hb1 hro (by omega) (w.heap.size+3) (w.heap.size+1) 2 2 (by decide) W4 (by omega) (by omega) c3 (fun j hj=>⟨_,(c1 j hj).1⟩)) kpB_t (kpB_b (by omega) (by omega)) (Below.refl _ _) (fun _=>rfl)
  (fun pre W=>(W.cell? ⟨w.heap.size,0,none⟩=some (.int .u16 ((rolled 2 m (pre.map (·.1.1))).2:Nat))∧W.frozen? ⟨w.heap.size,0,none⟩=false∧W.cell? ⟨w.heap.size+2,0,none⟩=some (.slice (some ⟨w.heap.size+1,0,none⟩) 2 2) ∧
   ∀j,j<2→W.cell? ⟨w.heap.size+1,j,none⟩=some (.int .u8 (((rolled 2 m (pre.map (·.1.1))).1[j]?.getD 0:Nat):Int))∧W.frozen? ⟨w.heap.size+1,j,none⟩=false)∧Below w.heap.size w W)
  (fun _ _ _=>False)
  (OwnFrom.and (Own.from (fun s A B row hs hg hr=>⟨cell_kept hs.1 hg hr,(frozen_kept hs.1 hg hr).trans hs.2.1,cell_kept hs.2.2.1 hg hr,fun j hj=>⟨cell_kept (hs.2.2.2 j hj).1 hg hr,(frozen_kept (hs.2.2.2 j hj).1 hg hr).trans (hs.2.2.2 j hj).2⟩⟩) _) (ownFrom_below (by omega) (by omega)))
  (fun _ _ _ _ _ hs _ _=>hs)
  ⟨⟨c0,f0,c2,c1⟩,hB⟩
  (fun x=>{ tmps:=#[.int .u16 m,.pointer (some ⟨w.heap.size,0,none⟩),.slice none 0 0,.pointer (some ⟨w.heap.size+1+1,0,none⟩),.int .i64 (x.1.1:Int),.int .i64 2,.slice (some ⟨w.heap.size+1,0,none⟩) 2 2,.slice (some ⟨w.heap.size+1,0,none⟩) 2 2,.func (.func 100) #[] #[.pointer (some ⟨w.heap.size+1+1+1,0,none⟩)],.int .i64 (x.1.1:Int),.int .u8 x.2,undef,undef,undef,undef,undef,undef,undef,undef,undef,undef],defers:=[] }) ?assign ?body ?done ?stop
 case assign=>
  intro l x W K hK
  gi_wp2
  exact hK
 case body=>
  rintro l pre ⟨⟨q,hq⟩,v⟩ W ⟨⟨k0,g0,k2,k1⟩,hBW⟩ _
  have kq:=k1 q hq
  obtain⟨st,hst⟩:∃st,rolled 2 m (pre.map (·.1.1))=st:=⟨_,rfl⟩
  have hL:st.1.length=2:=by rw[←hst];exact rolled_len _ _ _
  have hM:st.2≤m:=by rw[←hst];exact rolled_le _ _ _
  have hnext:rolled 2 m ((pre ++ [((⟨q,hq⟩:{ i:Nat // i<2 }),v)]).map (·.1.1))=roll st q:=by rw[List.map_append,←hst];exact rolled_snoc _ _ _ _
  rw[hst] at k0 k1 kq
  obtain⟨L,M⟩:=st
  dsimp only at k0 k1 kq hL hM hnext
  have HN:=hide hnext
  clear hst hnext
  have hI0:(0:Int)≤(q:Int):=by omega
  have hI1:(q:Int)<2:=by omega
  have kc:=kq.1
  have kf:=kq.2
  have K1:=hide k1
  clear kq k1
  gi_wp2
  have hwq:W.cell? ⟨w.heap.size+1,q,none⟩=some (.int .u8 ((L[q]?.getD 0:Nat):Int)):=kc
  refine⟨(KeepsOthers.setCell _ _ _).trans (KeepsOthers.setCell _ _ _),kpB_t (kpB_set (by omega) ⟨_,hwq⟩) (kpB_far (by show w.heap.size≠_;omega) (by show w.heap.size≠_;omega)),⟨?_,?_,?_,?_⟩,(hBW.setCell (p:=⟨w.heap.size+1,q,none⟩) (by simp) _).setCell (p:=⟨w.heap.size,0,none⟩) (Nat.le_refl _) _⟩
  ·rw[HN.out]
   exact (World.cell?_setCell_same' _ _ _ (by rw[World.cell?_setCell_far _ _ _ _ (by show w.heap.size+1≠w.heap.size;omega),k0];rfl)).trans (by simp only[roll];first | rfl | (congr 2;omega))
  ·rw[World.frozen?_setCell,World.frozen?_setCell];exact g0
  ·rw[World.cell?_setCell_far _ _ _ _ (by show w.heap.size≠w.heap.size+2;omega),World.cell?_setCell_far _ _ _ _ (by show w.heap.size+1≠w.heap.size+2;omega)];exact k2
  intro j hj
  refine⟨?_,by rw[World.frozen?_setCell,World.frozen?_setCell];exact (K1.out j hj).2⟩
  rw[HN.out,World.cell?_setCell_far _ _ _ _ (by show w.heap.size≠w.heap.size+1;omega)]
  by_cases hjq:q=j
  ·subst hjq
   exact (World.cell?_setCell_same' _ _ _ (by rw[hwq];rfl)).trans (by simp only[roll];rw[List.getElem?_set_self (by omega)];first | rfl | (congr 2;simp;omega))
  rw[World.cell?_setCell_other _ _ _ _ (fun e=>hjq (by injection e)),(K1.out j hj).1]
  simp only[roll]
  rw[List.getElem?_set_ne hjq]
 case done=>
  rintro D ys W hD hys ⟨⟨k0,g0,k2,k1⟩,hBW⟩ hK
  gi_wp2
  refine⟨by simp,.inl ⟨_,_,rfl,run_takeDeferred hK,?_⟩⟩
  have hsD:D<W.heap.size:=(Array.getElem?_eq_some_iff.1 hK).1
  have hbe:=rolled_2 m
  have hsP:(W.putObj D (.deferred none)).heap.size=W.heap.size:=by simp[World.putObj]
  refine⟨_,results_tmp rfl _ _ _,rfl,?_,?_,hBW.trans (belowK_b (w:=w) (Nat.le_refl _) W D _ _ (by omega) hK rfl rfl)⟩
  ·have hsm:=rolled_small 2 m (ys.map (·.1.1))
   have hle:=rolled_len 2 m (ys.map (·.1.1))
   rw[hys] at hsm k1 hle
   rw[←hbe]
   generalize (rolled 2 m (downTo 2 0)).1=L at k1 hsm hle
   intro _
   refine⟨_,_,rfl,by rw[hsP];omega,?_⟩
   intro j u hj
   simp only[u8s,List.map_map,List.getElem?_map,Option.map_eq_some_iff] at hj
   obtain⟨x,hx,rfl⟩:=hj
   have hj8:j<2:=by rw[←hle];exact (List.getElem?_eq_some_iff.1 hx).1
   have hx2:=hsm x (List.mem_of_getElem? hx)
   have h1:=(k1 j hj8).1
   rw[hx] at h1
   rw[Nat.zero_add]
   refine (cell_kept h1 (grownBy_putObj' _ D (.deferred none)) (fun r e=>by cases e;exact⟨_,hK,rfl⟩)).trans ?_
   simp only[Function.comp_apply,UInt8.toNat_ofNat',Option.getD_some]
   rw[Nat.mod_eq_of_lt hx2]
  rw[hsP];omega
 case stop=>
  rintro D c pre W _ _ h _
  exact h.elim
def zs4:Array Value:=Array.replicate 4 (.int .u8 0)
theorem make4 (w:World):(Instr.makeSlice 45 (.int .i64 4) (.int .i64 4)).run Tryz.prog w = .ok (.slice (some ⟨w.heap.size,0,none⟩) 4 4) (w.alloc (.cells zs4 5)):=by kernel_rfl
theorem digits32_in (F:Fence) (n:Nat) (hf:F.fn 58) (hw:F.fn 82) (hb:F.fn 83) (hb1:F.fn 100) (hro:F.round=none) (hn:3≤n)
  (hwid:∀w,CallsIn F (n-1) Tryz.prog 82 #[] w fun e w'=>e = .returned (.int .i64 4)∧w=w') (m:Nat) (hm:m<4294967296) (w:World) :
  CallsIn F n Tryz.prog 58 #[.int .u32 m] w fun e W'=>e = .returned (.slice (some ⟨w.heap.size+1,0,none⟩) 4 4)∧Rd W' W'.heap.size (some ⟨w.heap.size+1,0,none⟩) (u8s (be 4 m))∧w.heap.size+1<W'.heap.size∧Below w.heap.size w W':=by
 have h1:1≤n:=by omega
 have hmk:=make4
 refine callsIn_of_wp_marks Tryz.func58 rfl hf ?_ hro
 simp only[Tryz.ntmps58,List.size_toArray,List.length_cons,List.length_nil,Nat.reduceAdd,Nat.reduceSub,Array.replicate_succ,Array.replicate_zero,List.push_toArray,List.append_toArray,List.nil_append,List.cons_append]
 gi_wp2_with (first | (gi_at_call 82;refine (hwid _).mono ?_;rintro e w' ⟨rfl,rfl⟩) | (gi_at_call 83;refine (backward_in F (n-1) hb hro _ _ _ _).mono ?_;rintro e w' ⟨rfl,rfl⟩))
 obtain⟨W4,hW4⟩:∃W4,W4=((((w.alloc (.cells #[.int .u32 m] 74)).alloc (.cells zs4 5)).alloc (.cells #[.slice (some ⟨w.heap.size+1,0,none⟩) 4 4] 45)).alloc (.cells #[.slice (some ⟨w.heap.size+1,0,none⟩) 4 4] 45)):=⟨_,rfl⟩
 have c0:W4.cell? ⟨w.heap.size,0,none⟩=some (.int .u32 m):=by rw[hW4];simp[go_sem]
 have f0:W4.frozen? ⟨w.heap.size,0,none⟩=false:=by rw[hW4];simp[go_sem]
 have c1:∀j,j<4→W4.cell? ⟨w.heap.size+1,j,none⟩=some (.int .u8 (((List.replicate 4 (0:Nat))[j]?.getD 0:Nat):Int))∧W4.frozen? ⟨w.heap.size+1,j,none⟩=false:=by
  intro j hj
  have e:zs4[j]?=some (.int .u8 0):=by simp[zs4,hj]
  rw[hW4]
  constructor
  ·rw[List.getElem?_replicate,if_pos hj];simp[go_sem,e]
  simp[go_sem]
 have c2:W4.cell? ⟨w.heap.size+2,0,none⟩=some (.slice (some ⟨w.heap.size+1,0,none⟩) 4 4):=by rw[hW4];simp[go_sem]
 have c3:W4.cell? ⟨w.heap.size+3,0,none⟩=some (.slice (some ⟨w.heap.size+1,0,none⟩) 4 4):=by rw[hW4];simp[go_sem]
 have hsz:W4.heap.size=w.heap.size+4:=by rw[hW4];simp
 have hB:Below w.heap.size w W4:=by rw[hW4];exact ((((Below.refl _ w).alloc (Nat.le_refl _) _).alloc (by simp) _).alloc (by simp;omega) _).alloc (by simp;omega) _
 rw[←hW4]
 refine wpIn_rangeFunc_ownF hro h1 (gf:=100) (lb:=#[.pointer (some ⟨w.heap.size+1+1+1,0,none⟩)]) rfl hb1 (enters_of Tryz.func100 (by kernel_rfl) rfl)
  (backward_stops F (n-1) hb1 hro (by omega) (w.heap.size+3) (w.heap.size+1) 4 4 (by decide) W4 (by omega) (by omega) c3 (fun j hj=>⟨_,(c1 j hj).1⟩)) kpB_t (kpB_b (by omega) (by omega)) (Below.refl _ _) (fun _=>rfl)
  (fun pre W=>(W.cell? ⟨w.heap.size,0,none⟩=some (.int .u32 ((rolled 4 m (pre.map (·.1.1))).2:Nat))∧W.frozen? ⟨w.heap.size,0,none⟩=false∧W.cell? ⟨w.heap.size+2,0,none⟩=some (.slice (some ⟨w.heap.size+1,0,none⟩) 4 4) ∧
   ∀j,j<4→W.cell? ⟨w.heap.size+1,j,none⟩=some (.int .u8 (((rolled 4 m (pre.map (·.1.1))).1[j]?.getD 0:Nat):Int))∧W.frozen? ⟨w.heap.size+1,j,none⟩=false)∧Below w.heap.size w W)
  (fun _ _ _=>False)
  (OwnFrom.and (Own.from (fun s A B row hs hg hr=>⟨cell_kept hs.1 hg hr,(frozen_kept hs.1 hg hr).trans hs.2.1,cell_kept hs.2.2.1 hg hr,fun j hj=>⟨cell_kept (hs.2.2.2 j hj).1 hg hr,(frozen_kept (hs.2.2.2 j hj).1 hg hr).trans (hs.2.2.2 j hj).2⟩⟩) _) (ownFrom_below (by omega) (by omega)))
  (fun _ _ _ _ _ hs _ _=>hs)
  ⟨⟨c0,f0,c2,c1⟩,hB⟩
  (fun x=>{ tmps:=#[.int .u32 m,.pointer (some ⟨w.heap.size,0,none⟩),.slice none 0 0,.pointer (some ⟨w.heap.size+1+1,0,none⟩),.int .i64 (x.1.1:Int),.int .i64 4,.slice (some ⟨w.heap.size+1,0,none⟩) 4 4,.slice (some ⟨w.heap.size+1,0,none⟩) 4 4,.func (.func 100) #[] #[.pointer (some ⟨w.heap.size+1+1+1,0,none⟩)],.int .i64 (x.1.1:Int),.int .u8 x.2,undef,undef,undef,undef,undef,undef,undef,undef,undef,undef],defers:=[] }) ?assign ?body ?done ?stop
 case assign=>
  intro l x W K hK
  gi_wp2
  exact hK
 case body=>
  rintro l pre ⟨⟨q,hq⟩,v⟩ W ⟨⟨k0,g0,k2,k1⟩,hBW⟩ _
  have kq:=k1 q hq
  obtain⟨st,hst⟩:∃st,rolled 4 m (pre.map (·.1.1))=st:=⟨_,rfl⟩
  have hL:st.1.length=4:=by rw[←hst];exact rolled_len _ _ _
  have hM:st.2≤m:=by rw[←hst];exact rolled_le _ _ _
  have hnext:rolled 4 m ((pre ++ [((⟨q,hq⟩:{ i:Nat // i<4 }),v)]).map (·.1.1))=roll st q:=by rw[List.map_append,←hst];exact rolled_snoc _ _ _ _
  rw[hst] at k0 k1 kq
  obtain⟨L,M⟩:=st
  dsimp only at k0 k1 kq hL hM hnext
  have HN:=hide hnext
  clear hst hnext
  have hI0:(0:Int)≤(q:Int):=by omega
  have hI1:(q:Int)<4:=by omega
  have kc:=kq.1
  have kf:=kq.2
  have K1:=hide k1
  clear kq k1
  gi_wp2
  have hwq:W.cell? ⟨w.heap.size+1,q,none⟩=some (.int .u8 ((L[q]?.getD 0:Nat):Int)):=kc
  refine⟨(KeepsOthers.setCell _ _ _).trans (KeepsOthers.setCell _ _ _),kpB_t (kpB_set (by omega) ⟨_,hwq⟩) (kpB_far (by show w.heap.size≠_;omega) (by show w.heap.size≠_;omega)),⟨?_,?_,?_,?_⟩,(hBW.setCell (p:=⟨w.heap.size+1,q,none⟩) (by simp) _).setCell (p:=⟨w.heap.size,0,none⟩) (Nat.le_refl _) _⟩
  ·rw[HN.out]
   exact (World.cell?_setCell_same' _ _ _ (by rw[World.cell?_setCell_far _ _ _ _ (by show w.heap.size+1≠w.heap.size;omega),k0];rfl)).trans (by simp only[roll];first | rfl | (congr 2;omega))
  ·rw[World.frozen?_setCell,World.frozen?_setCell];exact g0
  ·rw[World.cell?_setCell_far _ _ _ _ (by show w.heap.size≠w.heap.size+2;omega),World.cell?_setCell_far _ _ _ _ (by show w.heap.size+1≠w.heap.size+2;omega)];exact k2
  intro j hj
  refine⟨?_,by rw[World.frozen?_setCell,World.frozen?_setCell];exact (K1.out j hj).2⟩
  rw[HN.out,World.cell?_setCell_far _ _ _ _ (by show w.heap.size≠w.heap.size+1;omega)]
  by_cases hjq:q=j
  ·subst hjq
   exact (World.cell?_setCell_same' _ _ _ (by rw[hwq];rfl)).trans (by simp only[roll];rw[List.getElem?_set_self (by omega)];first | rfl | (congr 2;simp;omega))
  rw[World.cell?_setCell_other _ _ _ _ (fun e=>hjq (by injection e)),(K1.out j hj).1]
  simp only[roll]
  rw[List.getElem?_set_ne hjq]
 case done=>
  rintro D ys W hD hys ⟨⟨k0,g0,k2,k1⟩,hBW⟩ hK
  gi_wp2
  refine⟨by simp,.inl ⟨_,_,rfl,run_takeDeferred hK,?_⟩⟩
  have hsD:D<W.heap.size:=(Array.getElem?_eq_some_iff.1 hK).1
  have hbe:=rolled_4 m
  have hsP:(W.putObj D (.deferred none)).heap.size=W.heap.size:=by simp[World.putObj]
  refine⟨_,results_tmp rfl _ _ _,rfl,?_,?_,hBW.trans (belowK_b (w:=w) (Nat.le_refl _) W D _ _ (by omega) hK rfl rfl)⟩
  ·have hsm:=rolled_small 4 m (ys.map (·.1.1))
   have hle:=rolled_len 4 m (ys.map (·.1.1))
   rw[hys] at hsm k1 hle
   rw[←hbe]
   generalize (rolled 4 m (downTo 4 0)).1=L at k1 hsm hle
   intro _
   refine⟨_,_,rfl,by rw[hsP];omega,?_⟩
   intro j u hj
   simp only[u8s,List.map_map,List.getElem?_map,Option.map_eq_some_iff] at hj
   obtain⟨x,hx,rfl⟩:=hj
   have hj8:j<4:=by rw[←hle];exact (List.getElem?_eq_some_iff.1 hx).1
   have hx2:=hsm x (List.mem_of_getElem? hx)
   have h1:=(k1 j hj8).1
   rw[hx] at h1
   rw[Nat.zero_add]
   refine (cell_kept h1 (grownBy_putObj' _ D (.deferred none)) (fun r e=>by cases e;exact⟨_,hK,rfl⟩)).trans ?_
   simp only[Function.comp_apply,UInt8.toNat_ofNat',Option.getD_some]
   rw[Nat.mod_eq_of_lt hx2]
  rw[hsP];omega
 case stop=>
  rintro D c pre W _ _ h _
  exact h.elim
def zs8:Array Value:=Array.replicate 8 (.int .u8 0)
theorem make8 (w:World):(Instr.makeSlice 45 (.int .i64 8) (.int .i64 8)).run Tryz.prog w = .ok (.slice (some ⟨w.heap.size,0,none⟩) 8 8) (w.alloc (.cells zs8 5)):=by kernel_rfl
theorem digits64_in (F:Fence) (n:Nat) (hf:F.fn 60) (hw:F.fn 85) (hb:F.fn 83) (hb1:F.fn 100) (hro:F.round=none) (hn:3≤n)
  (hwid:∀w,CallsIn F (n-1) Tryz.prog 85 #[] w fun e w'=>e = .returned (.int .i64 8)∧w=w') (m:Nat) (hm:m<18446744073709551616) (w:World) :
  CallsIn F n Tryz.prog 60 #[.int .u64 m] w fun e W'=>e = .returned (.slice (some ⟨w.heap.size+1,0,none⟩) 8 8)∧Rd W' W'.heap.size (some ⟨w.heap.size+1,0,none⟩) (u8s (be 8 m))∧w.heap.size+1<W'.heap.size∧Below w.heap.size w W':=by
 have h1:1≤n:=by omega
 have hmk:=make8
 refine callsIn_of_wp_marks Tryz.func60 rfl hf ?_ hro
 simp only[Tryz.ntmps60,List.size_toArray,List.length_cons,List.length_nil,Nat.reduceAdd,Nat.reduceSub,Array.replicate_succ,Array.replicate_zero,List.push_toArray,List.append_toArray,List.nil_append,List.cons_append]
 gi_wp2_with (first | (gi_at_call 85;refine (hwid _).mono ?_;rintro e w' ⟨rfl,rfl⟩) | (gi_at_call 83;refine (backward_in F (n-1) hb hro _ _ _ _).mono ?_;rintro e w' ⟨rfl,rfl⟩))
 obtain⟨W4,hW4⟩:∃W4,W4=((((w.alloc (.cells #[.int .u64 m] 78)).alloc (.cells zs8 5)).alloc (.cells #[.slice (some ⟨w.heap.size+1,0,none⟩) 8 8] 45)).alloc (.cells #[.slice (some ⟨w.heap.size+1,0,none⟩) 8 8] 45)):=⟨_,rfl⟩
 have c0:W4.cell? ⟨w.heap.size,0,none⟩=some (.int .u64 m):=by rw[hW4];simp[go_sem]
 have f0:W4.frozen? ⟨w.heap.size,0,none⟩=false:=by rw[hW4];simp[go_sem]
 have c1:∀j,j<8→W4.cell? ⟨w.heap.size+1,j,none⟩=some (.int .u8 (((List.replicate 8 (0:Nat))[j]?.getD 0:Nat):Int))∧W4.frozen? ⟨w.heap.size+1,j,none⟩=false:=by
  intro j hj
  have e:zs8[j]?=some (.int .u8 0):=by simp[zs8,hj]
  rw[hW4]
  constructor
  ·rw[List.getElem?_replicate,if_pos hj];simp[go_sem,e]
  simp[go_sem]
 have c2:W4.cell? ⟨w.heap.size+2,0,none⟩=some (.slice (some ⟨w.heap.size+1,0,none⟩) 8 8):=by rw[hW4];simp[go_sem]
 have c3:W4.cell? ⟨w.heap.size+3,0,none⟩=some (.slice (some ⟨w.heap.size+1,0,none⟩) 8 8):=by rw[hW4];simp[go_sem]
 have hsz:W4.heap.size=w.heap.size+4:=by rw[hW4];simp
 have hB:Below w.heap.size w W4:=by rw[hW4];exact ((((Below.refl _ w).alloc (Nat.le_refl _) _).alloc (by simp) _).alloc (by simp;omega) _).alloc (by simp;omega) _
 rw[←hW4]
 refine wpIn_rangeFunc_ownF hro h1 (gf:=100) (lb:=#[.pointer (some ⟨w.heap.size+1+1+1,0,none⟩)]) rfl hb1 (enters_of Tryz.func100 (by kernel_rfl) rfl)
  (backward_stops F (n-1) hb1 hro (by omega) (w.heap.size+3) (w.heap.size+1) 8 8 (by decide) W4 (by omega) (by omega) c3 (fun j hj=>⟨_,(c1 j hj).1⟩)) kpB_t (kpB_b (by omega) (by omega)) (Below.refl _ _) (fun _=>rfl)
  (fun pre W=>(W.cell? ⟨w.heap.size,0,none⟩=some (.int .u64 ((rolled 8 m (pre.map (·.1.1))).2:Nat))∧W.frozen? ⟨w.heap.size,0,none⟩=false∧W.cell? ⟨w.heap.size+2,0,none⟩=some (.slice (some ⟨w.heap.size+1,0,none⟩) 8 8) ∧
   ∀j,j<8→W.cell? ⟨w.heap.size+1,j,none⟩=some (.int .u8 (((rolled 8 m (pre.map (·.1.1))).1[j]?.getD 0:Nat):Int))∧W.frozen? ⟨w.heap.size+1,j,none⟩=false)∧Below w.heap.size w W)
  (fun _ _ _=>False)
  (OwnFrom.and (Own.from (fun s A B row hs hg hr=>⟨cell_kept hs.1 hg hr,(frozen_kept hs.1 hg hr).trans hs.2.1,cell_kept hs.2.2.1 hg hr,fun j hj=>⟨cell_kept (hs.2.2.2 j hj).1 hg hr,(frozen_kept (hs.2.2.2 j hj).1 hg hr).trans (hs.2.2.2 j hj).2⟩⟩) _) (ownFrom_below (by omega) (by omega)))
  (fun _ _ _ _ _ hs _ _=>hs)
  ⟨⟨c0,f0,c2,c1⟩,hB⟩
  (fun x=>{ tmps:=#[.int .u64 m,.pointer (some ⟨w.heap.size,0,none⟩),.slice none 0 0,.pointer (some ⟨w.heap.size+1+1,0,none⟩),.int .i64 (x.1.1:Int),.int .i64 8,.slice (some ⟨w.heap.size+1,0,none⟩) 8 8,.slice (some ⟨w.heap.size+1,0,none⟩) 8 8,.func (.func 100) #[] #[.pointer (some ⟨w.heap.size+1+1+1,0,none⟩)],.int .i64 (x.1.1:Int),.int .u8 x.2,undef,undef,undef,undef,undef,undef,undef,undef],defers:=[] }) ?assign ?body ?done ?stop
 case assign=>
  intro l x W K hK
  gi_wp2
  exact hK
 case body=>
  rintro l pre ⟨⟨q,hq⟩,v⟩ W ⟨⟨k0,g0,k2,k1⟩,hBW⟩ _
  have kq:=k1 q hq
  obtain⟨st,hst⟩:∃st,rolled 8 m (pre.map (·.1.1))=st:=⟨_,rfl⟩
  have hL:st.1.length=8:=by rw[←hst];exact rolled_len _ _ _
  have hM:st.2≤m:=by rw[←hst];exact rolled_le _ _ _
  have hnext:rolled 8 m ((pre ++ [((⟨q,hq⟩:{ i:Nat // i<8 }),v)]).map (·.1.1))=roll st q:=by rw[List.map_append,←hst];exact rolled_snoc _ _ _ _
  rw[hst] at k0 k1 kq
  obtain⟨L,M⟩:=st
  dsimp only at k0 k1 kq hL hM hnext
  have HN:=hide hnext
  clear hst hnext
  have hI0:(0:Int)≤(q:Int):=by omega
  have hI1:(q:Int)<8:=by omega
  have kc:=kq.1
  have kf:=kq.2
  have K1:=hide k1
  clear kq k1
  gi_wp2
  have hwq:W.cell? ⟨w.heap.size+1,q,none⟩=some (.int .u8 ((L[q]?.getD 0:Nat):Int)):=kc
  refine⟨(KeepsOthers.setCell _ _ _).trans (KeepsOthers.setCell _ _ _),kpB_t (kpB_set (by omega) ⟨_,hwq⟩) (kpB_far (by show w.heap.size≠_;omega) (by show w.heap.size≠_;omega)),⟨?_,?_,?_,?_⟩,(hBW.setCell (p:=⟨w.heap.size+1,q,none⟩) (by simp) _).setCell (p:=⟨w.heap.size,0,none⟩) (Nat.le_refl _) _⟩
  ·rw[HN.out]
   exact (World.cell?_setCell_same' _ _ _ (by rw[World.cell?_setCell_far _ _ _ _ (by show w.heap.size+1≠w.heap.size;omega),k0];rfl)).trans (by simp only[roll];first | rfl | (congr 2;omega))
  ·rw[World.frozen?_setCell,World.frozen?_setCell];exact g0
  ·rw[World.cell?_setCell_far _ _ _ _ (by show w.heap.size≠w.heap.size+2;omega),World.cell?_setCell_far _ _ _ _ (by show w.heap.size+1≠w.heap.size+2;omega)];exact k2
  intro j hj
  refine⟨?_,by rw[World.frozen?_setCell,World.frozen?_setCell];exact (K1.out j hj).2⟩
  rw[HN.out,World.cell?_setCell_far _ _ _ _ (by show w.heap.size≠w.heap.size+1;omega)]
  by_cases hjq:q=j
  ·subst hjq
   exact (World.cell?_setCell_same' _ _ _ (by rw[hwq];rfl)).trans (by simp only[roll];rw[List.getElem?_set_self (by omega)];first | rfl | (congr 2;simp;omega))
  rw[World.cell?_setCell_other _ _ _ _ (fun e=>hjq (by injection e)),(K1.out j hj).1]
  simp only[roll]
  rw[List.getElem?_set_ne hjq]
 case done=>
  rintro D ys W hD hys ⟨⟨k0,g0,k2,k1⟩,hBW⟩ hK
  gi_wp2
  refine⟨by simp,.inl ⟨_,_,rfl,run_takeDeferred hK,?_⟩⟩
  have hsD:D<W.heap.size:=(Array.getElem?_eq_some_iff.1 hK).1
  have hbe:=rolled_8 m
  have hsP:(W.putObj D (.deferred none)).heap.size=W.heap.size:=by simp[World.putObj]
  refine⟨_,results_tmp rfl _ _ _,rfl,?_,?_,hBW.trans (belowK_b (w:=w) (Nat.le_refl _) W D _ _ (by omega) hK rfl rfl)⟩
  ·have hsm:=rolled_small 8 m (ys.map (·.1.1))
   have hle:=rolled_len 8 m (ys.map (·.1.1))
   rw[hys] at hsm k1 hle
   rw[←hbe]
   generalize (rolled 8 m (downTo 8 0)).1=L at k1 hsm hle
   intro _
   refine⟨_,_,rfl,by rw[hsP];omega,?_⟩
   intro j u hj
   simp only[u8s,List.map_map,List.getElem?_map,Option.map_eq_some_iff] at hj
   obtain⟨x,hx,rfl⟩:=hj
   have hj8:j<8:=by rw[←hle];exact (List.getElem?_eq_some_iff.1 hx).1
   have hx2:=hsm x (List.mem_of_getElem? hx)
   have h1:=(k1 j hj8).1
   rw[hx] at h1
   rw[Nat.zero_add]
   refine (cell_kept h1 (grownBy_putObj' _ D (.deferred none)) (fun r e=>by cases e;exact⟨_,hK,rfl⟩)).trans ?_
   simp only[Function.comp_apply,UInt8.toNat_ofNat',Option.getD_some]
   rw[Nat.mod_eq_of_lt hx2]
  rw[hsP];omega
 case stop=>
  rintro D c pre W _ _ h _
  exact h.elim
theorem digits8 (m:Nat) (hm:m<256) (w:World) :
  Calls Tryz.prog 61 #[.int .u8 m] w fun e W'=>e = .returned (.slice (some ⟨w.heap.size+1,0,none⟩) 1 1)∧Rd W' W'.heap.size (some ⟨w.heap.size+1,0,none⟩) (u8s (be 1 m))∧w.heap.size+1<W'.heap.size∧Below w.heap.size w W':=
 (callsIn_wide (n:=3)).1 (digits8_in Fence.wide 3 trivial trivial trivial trivial rfl (by decide) (fun w=>callsIn_wide.2 (width8 w)) m hm w)
theorem digits16 (m:Nat) (hm:m<65536) (w:World) :
  Calls Tryz.prog 59 #[.int .u16 m] w fun e W'=>e = .returned (.slice (some ⟨w.heap.size+1,0,none⟩) 2 2)∧Rd W' W'.heap.size (some ⟨w.heap.size+1,0,none⟩) (u8s (be 2 m))∧w.heap.size+1<W'.heap.size∧Below w.heap.size w W':=
 (callsIn_wide (n:=3)).1 (digits16_in Fence.wide 3 trivial trivial trivial trivial rfl (by decide) (fun w=>callsIn_wide.2 (width16 w)) m hm w)
theorem digits32 (m:Nat) (hm:m<4294967296) (w:World) :
  Calls Tryz.prog 58 #[.int .u32 m] w fun e W'=>e = .returned (.slice (some ⟨w.heap.size+1,0,none⟩) 4 4)∧Rd W' W'.heap.size (some ⟨w.heap.size+1,0,none⟩) (u8s (be 4 m))∧w.heap.size+1<W'.heap.size∧Below w.heap.size w W':=
 (callsIn_wide (n:=3)).1 (digits32_in Fence.wide 3 trivial trivial trivial trivial rfl (by decide) (fun w=>callsIn_wide.2 (width32 w)) m hm w)
theorem digits64 (m:Nat) (hm:m<18446744073709551616) (w:World) :
  Calls Tryz.prog 60 #[.int .u64 m] w fun e W'=>e = .returned (.slice (some ⟨w.heap.size+1,0,none⟩) 8 8)∧Rd W' W'.heap.size (some ⟨w.heap.size+1,0,none⟩) (u8s (be 8 m))∧w.heap.size+1<W'.heap.size∧Below w.heap.size w W':=
 (callsIn_wide (n:=3)).1 (digits64_in Fence.wide 3 trivial trivial trivial trivial rfl (by decide) (fun w=>callsIn_wide.2 (width64 w)) m hm w)
end Go.Proofs.YtpojjmbalgmcoaaGreat

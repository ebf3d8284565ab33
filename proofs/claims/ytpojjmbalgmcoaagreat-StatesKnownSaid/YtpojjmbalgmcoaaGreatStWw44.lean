/- Lemmas: Tdp. -/
import Derived.Test.YtpojjmbalgmcoaaGreatProg
import Derived.Lib.Hide
import Derived.WalkSpells
import Derived.WalkMore
import Derived.Deep.Strs
import Derived.Test.YtpojjmbalgmcoaaGreatStWw31
import Derived.Test.YtpojjmbalgmcoaaGreatStWw40
import Derived.Test.YtpojjmbalgmcoaaGreatStWw43
set_option linter.unusedVariables false
set_option linter.unusedSimpArgs false
set_option maxRecDepth 100000
set_option maxHeartbeats 16000000
namespace Go.Proofs.YtpojjmbalgmcoaaGreat
open Go.RowKit
theorem addM_bd {k:Int} {m:Ms} (hm:i64V m.1∧i64V m.2):∀{l:List Ms},msB l→msB (addM k l m)
 | [],_=>fun x hx=>by rw[List.mem_singleton.1 hx];exact hm
 | y :: l,h=>by
  have hy:=h y (List.mem_cons_self ..)
  have hl:msB l:=fun x hx=>h x (List.mem_cons_of_mem _ hx)
  have ih:=addM_bd (k:=k) hm hl
  unfold addM
  split
  ·intro x hx
   rcases List.mem_cons.1 hx with rfl | hx
   ·exact hy
   exact ih x hx
  split
  ·intro x hx
   rcases List.mem_cons.1 hx with rfl | hx
   ·exact⟨hm.1,comb_bd hy.2 hm.2⟩
   exact hl x hx
  intro x hx
  rcases List.mem_cons.1 hx with rfl | hx
  ·exact hm
  exact h x hx
theorem docM_bd {k:Int} {l:List Ms} (h:msB l):msB (docM k l):=by
 have g:∀(l acc:List Ms),msB l→msB acc→msB (l.foldl (addM k) acc):=by
  intro l
  induction l with
  | nil=>intro acc _ ha;exact ha
  | cons x l ih=>intro acc hl ha;exact ih _ (fun y hy=>hl y (List.mem_cons_of_mem _ hy)) (addM_bd (hl x (List.mem_cons_self ..)) ha)
 exact g l [] h (fun x hx=>by cases hx)
def edsB (es:List Ed):Prop:=∀e∈es,i64V e.1∧i64V e.2.1
theorem fromF_B {es:List Ed} (h:edsB es) (v:Int):edsB (fromF es v):=fun e he=>h e (List.mem_filter.1 he).1
theorem toF_B {es:List Ed} (h:edsB es) (v:Int):edsB (toF es v):=fun e he=>h e (List.mem_filter.1 he).1
theorem fromF_le (es:List Ed) (v:Int):(fromF es v).length≤es.length:=List.length_filter_le _ _
theorem toF_le (es:List Ed) (v:Int):(toF es v).length≤es.length:=List.length_filter_le _ _
theorem evenF_bd {a n:Int} (ha:i64V a):i64V (evenF a n):=by
 unfold evenF shareF
 by_cases h:a<0∨n<1
 ·rw[if_pos h];simp[i64V]
 rw[if_neg h]
 have:=tdiv_in (a:=a) (n:=n) (by omega) ha.2 (by omega)
 simp only[if_true]
 exact⟨by omega,this.2⟩
theorem nearF_mem {v:Int} {outs backs:List Ed} (h1:edsB outs) (h2:edsB backs):∀u∈nearF v outs backs,i64V u:=fun u hu=>by
 have h:=((compact_spec (sort_up _)).2 u).1 (List.mem_filter.1 hu).1
 unfold sortI at h
 have h:=List.mem_mergeSort.1 h
 rcases List.mem_append.1 h with h | h
 ·obtain⟨e,he,rfl⟩:=List.mem_map.1 h
  exact (h1 e he).2
 obtain⟨e,he,rfl⟩:=List.mem_map.1 h
 exact (h2 e he).1
theorem sndD_bd {k:Int} {ch:Bool} {v y:Int} {outs backs:List Ed} (h1:edsB outs) (h2:edsB backs) (hy:i64V y):msB (sndD k ch v y outs backs):=by
 refine docM_bd ?_
 have hd:∀a b,i64V (dadd a b):=fun a b=>by have:=dadd_rg a b;unfold i64V;omega
 unfold sndL
 split
 ·intro m hm
  obtain⟨e,he,rfl⟩:=List.mem_map.1 hm
  exact⟨(h1 e he).2,evenF_bd hy⟩
 split
 ·intro m hm
  unfold lbMs at hm
  split at hm
  ·obtain⟨u,hu,rfl⟩:=List.mem_map.1 hm
   exact⟨nearF_mem h1 h2 u hu,hy⟩
  cases hm
 split
 ·intro m hm
  unfold wyMs at hm
  split at hm
  ·obtain⟨e,he,rfl⟩:=List.mem_map.1 hm
   exact⟨(h1 e he).2,hd _ _⟩
  cases hm
 intro m hm;cases hm
def rowV (k:Int) (es:List Ed) (vals:List Int) (chs:List Bool) (v:Nat):List Ms:=sndD k (chs.getD v false) (v:Int) (vals.getD v 0) (fromF es v) (toF es v)
def rowsV (k:Int) (es:List Ed) (vals:List Int) (chs:List Bool) (n:Nat):List (List Ms):=(List.range n).map (rowV k es vals chs)
theorem rowsV_succ (k:Int) (es:List Ed) (vals:List Int) (chs:List Bool) (n:Nat):rowsV k es vals chs (n+1)=rowsV k es vals chs n ++ [rowV k es vals chs n]:=by simp[rowsV,List.range_succ]
theorem rowsV_len (k:Int) (es:List Ed) (vals:List Int) (chs:List Bool) (n:Nat):(rowsV k es vals chs n).length=n:=by simp[rowsV]
theorem rowsV_flat (k:Int) (es:List Ed) (vals:List Int) (chs:List Bool):∀n,(rowsV k es vals chs n).flatten.length≤n*(2*es.length)
 | 0=>by simp[rowsV]
 | n+1=>by
  have ih:=rowsV_flat k es vals chs n
  have h:=sndD_len k (chs.getD n false) (n:Int) (vals.getD n 0) (fromF es n) (toF es n)
  have h1:=fromF_le es n
  have h2:=toF_le es n
  rw[rowsV_succ,List.flatten_append,List.length_append,Nat.succ_mul]
  have h3:([rowV k es vals chs n]:List (List Ms)).flatten.length=(sndD k (chs.getD n false) (n:Int) (vals.getD n 0) (fromF es n) (toF es n)).length:=by simp[rowV]
  omega
theorem getD_bd {vals:List Int} (hv:∀x∈vals,i64V x) (n:Nat):i64V (vals.getD n 0):=by
 by_cases h:n<vals.length
 ·rw[List.getD_eq_getElem?_getD,List.getElem?_eq_getElem h];exact hv _ (List.getElem_mem h)
 rw[List.getD_eq_getElem?_getD,List.getElem?_eq_none (by omega)];simp[i64V]
theorem rowsV_bd {k:Int} {es:List Ed} {vals:List Int} {chs:List Bool} {n:Nat} (he:edsB es) (hv:∀x∈vals,i64V x):msB (rowsV k es vals chs n).flatten:=fun m hm=>by
 obtain⟨r,hr,hmr⟩:=List.mem_flatten.1 hm
 obtain⟨v,_,rfl⟩:=List.mem_map.1 hr
 exact sndD_bd (fromF_B he _) (toF_B he _) (getD_bd hv v) m hmr
def totV (k:Int) (es:List Ed) (was vals:List Int) (chs:List Bool):Nat→Int×Int
 | 0=>(0,0)
 | n+1=>joinF k (totV k es was vals chs n).1 (totV k es was vals chs n).2 (partT k (was.getD n 0) (vals.getD n 0) (chs.getD n false) (fromF es n).length).1 (partT k (was.getD n 0) (vals.getD n 0) (chs.getD n false) (fromF es n).length).2
theorem partT_bd (k was val:Int) (chg:Bool) (n:Nat) (h:i64V val):i64V (partT k was val chg n).1∧i64V (partT k was val chg n).2:=by
 have h1:=dist_bounds was
 have h2:=dist_bounds val
 unfold i64V at *
 unfold partT apartF
 split
 ·refine⟨?_,?_⟩
  ·dsimp only;split <;> omega
  dsimp only;split <;> omega
 split <;> (dsimp only;omega)
theorem joinF_bd (k s m q r:Int) (hs:i64V s) (hm:i64V m) (hq:i64V q) (hr:i64V r):i64V (joinF k s m q r).1∧i64V (joinF k s m q r).2:=by
 have h1:=dadd_rg s q
 have h2:=dadd_rg m r
 unfold i64V at *
 unfold joinF
 split
 ·dsimp only;omega
 split <;> (dsimp only;omega)
theorem totV_bd (k:Int) (es:List Ed) (was vals:List Int) (chs:List Bool) (hv:∀x∈vals,i64V x):∀n,i64V (totV k es was vals chs n).1∧i64V (totV k es was vals chs n).2
 | 0=>by simp[totV,i64V]
 | n+1=>by
  have ih:=totV_bd k es was vals chs hv n
  have hx:i64V (vals.getD n 0):=by
   by_cases h:n<vals.length
   ·rw[List.getD_eq_getElem?_getD,List.getElem?_eq_getElem h];exact hv _ (List.getElem_mem h)
   rw[List.getD_eq_getElem?_getD,List.getElem?_eq_none (by omega)];simp[i64V]
  have hp:=partT_bd k (was.getD n 0) (vals.getD n 0) (chs.getD n false) (fromF es n).length hx
  exact joinF_bd _ _ _ _ _ ih.1 ih.2 hp.1 hp.2
def ownL (n:Nat):List Int:=(List.range n).map fun (v:Nat)=>(v:Int)
theorem ownL_len (n:Nat):(ownL n).length=n:=by simp[ownL]
theorem ownL_bd {n:Nat} (h:n≤1000):∀v∈ownL n,i64V v:=fun v hv=>by
 obtain⟨q,hq,rfl⟩:=List.mem_map.1 hv
 have:=List.mem_range.1 hq
 unfold i64V
 omega
def toldM (k:Int) (es:List Ed) (vals:List Int) (chs:List Bool) (n:Nat):List Ml:=mails k (rowsV k es vals chs n).flatten (ownL n)
def TellPost (w:World) (k:Int) (es:List Ed) (was vals:List Int) (chs:List Bool) (V:Nat) (st:Int) (Av Ac:Option Addr) (cv cc:Nat) (e:Ending) (w':World):Prop:=
 ∃Ai ci,e = .returned (.agg #[.int .i64 st,.slice Av V cv,.slice Ac V cc,.slice Ai V ci,.int .i64 (totV k es was vals chs V).1,.int .i64 (totV k es was vals chs V).2])∧Rd w' w'.heap.size Ai (mlFlat (toldM k es vals chs V))∧Below w.heap.size w w'∧NewA w.heap.size Ai
end Go.Proofs.YtpojjmbalgmcoaaGreat

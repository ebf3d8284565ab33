/- Lemmas: Snq, Sra, Srd. -/
import Derived.Lib.RowBridge
import Derived.Deep.DeepCutAuto
import Derived.Test.YtpojjmbalgmcoaaGreatProg
import Derived.Lib.Hide
import Derived.WalkSpells
import Derived.WalkMore
import Derived.Test.YtpojjmbalgmcoaaGreatStWw33
import Derived.Test.YtpojjmbalgmcoaaGreatStWw36
set_option linter.unusedVariables false
set_option linter.unusedSimpArgs false
set_option maxRecDepth 100000
set_option maxHeartbeats 16000000
namespace Go.Proofs.YtpojjmbalgmcoaaGreat
open Go.RowKit
def lbMs (ch:Bool) (v x:Int) (outs backs:List Ed):List Ms:=if ch=true then (nearF v outs backs).map fun u=>(u,x) else []
theorem nearF_len (v:Int) (outs backs:List Ed) (n1 n2:Nat) (h1:outs.length=n1) (h2:backs.length=n2):(nearF v outs backs).length≤n1+n2:=by
 unfold nearF
 refine Nat.le_trans (List.length_filter_le _ _) (Nat.le_trans (Lib.compact_length_le _) ?_)
 unfold sortI
 rw[List.length_mergeSort,List.length_append]
 simp only[tos,froms,List.length_map]
 omega
theorem lbsend_any (w:World) (v x:Int) (ch:Bool) (A1 A2:Option Addr) (outs backs:List Ed) (n1 c1 n2 c2:Nat) (h1:outs.length=n1) (h2:backs.length=n2) (hn1:n1≤8192) (hn2:n2≤8192) (e1:Eds w w.heap.size A1 outs) (e2:Eds w w.heap.size A2 backs) :
  Calls Tryz.prog 148 #[.agg #[],.int .i64 v,.int .i64 x,.bool ch,.slice A1 n1 c1,.slice A2 n2 c2] w (MsgPost w (lbMs ch v x outs backs)):=by
 obtain⟨i0,hi0,hz0,hz1,hz2⟩:=info_parts (show (Tryz.prog.info? 185).map (fun i=>(i.zero,i.size,i.bytes))=some (some (.agg #[.int .i64 0,.int .i64 0]),2,16) by kernel_rfl)
 have hb0:=(Below.refl w.heap.size w).alloc (Nat.le_refl _) (.cells #[] 132)
 have HB:=hide hb0
 have HE1:=hide (e1.next hb0)
 have HE2:=hide (e2.next hb0)
 cases ch
 ·have HFin:Hid (MsgPost w (lbMs false v x outs backs) (.returned (.slice none 0 0)) (w.alloc (.cells #[] 132))):=hide ⟨none,0,rfl,World.ownsRow_nil _ _ _ _,HB.out⟩
  clear hb0
  go_enter Tryz.func148,Tryz.ntmps148
  go_wp2
  go_ret
  exact HFin.out
 have hml:=nearF_len v outs backs n1 n2 h1 h2
 have HH:=hide (And.intro h1 h2)
 clear hb0 e1 e2 h1 h2
 go_enter Tryz.func148,Tryz.ntmps148
 go_wp2_with fail
 refine (near_any _ v A1 A2 outs backs n1 c1 n2 c2 HH.out.1 HH.out.2 (by omega) (by omega) HE1.out HE2.out).mono ?_
 rintro e w2 ⟨Al,cl,rfl,ho,hb⟩
 obtain⟨l,hl⟩:∃l,nearF v outs backs=l:=⟨_,rfl⟩
 rw[hl] at ho hml ⊢
 have HLl:=hide hl
 obtain⟨L,hL⟩:∃L,l.length=L:=⟨_,rfl⟩
 rw[hL] at ho hml ⊢
 have HR:Hid (Rd w2 w2.heap.size Al (l.map (Value.int .i64))):=hide (Rd.of_own ho)
 have HLL:=hide hL
 have HB2:=hide (HB.out.trans (hb.mono (by simp)))
 clear ho hb hl hL HE1 HE2
 go_wp2
 go_loopw [13,23] (fun v13 v18 wr=>∃(k:Nat) (Am:Option Addr) (cm:Nat),k≤L∧v18 = .int .i64 k∧v13 = .slice Am k cm∧Hid (wr.ownsRow w2.heap.size 185 2 (.slice Am k cm) k (msFlat ((l.map fun u=>(u,x)).take k)))∧Hid (Below w2.heap.size w2 wr)) (fun _ v18 _=>L-(intOf v18).toNat)
 case atStart=>exact⟨0,none,0,by omega,rfl,rfl,hide (World.ownsRow_nil _ _ _ _),hide (Below.refl _ _)⟩
 case round=>
  obtain⟨k,Am,cm,hk,rfl,rfl,HOw,HBw⟩:=hrel
  have hsz:w2.heap.size≤wr.heap.size:=HBw.out.size
  by_cases hlt:k<L
  ·obtain⟨y,hy⟩:∃y,l[k]?=some y:=⟨_,List.getElem?_eq_getElem (by rw[HLL.out];exact hlt)⟩
   obtain⟨b,off,hA,hbl,hc⟩:=HR.out.at_ (k:=k) (by rw[List.length_map,HLL.out];exact hlt)
   subst hA
   have d0:wr.cell? ⟨b,off+k,none⟩=some (.int .i64 y):=(HBw.out.cell (p:=⟨b,off+k,none⟩) hbl).trans (hc k _ (by rw[List.getElem?_map,hy];rfl))
   have HSN:Hid (msFlat ((l.map fun u=>(u,x)).take k) ++ [.int .i64 y,.int .i64 x]=msFlat ((l.map fun u=>(u,x)).take (k+1))):=hide (by
    rw[List.take_add_one,List.getElem?_map,hy,←msFlat_app];rfl)
   have hI1:(k:Int)<(L:Int):=by omega
   have hlb:b<wr.heap.size:=by omega
   have hcap:=own_cap HOw.out
   clear hy hc
   go_wp2_with (at_builtin;refine wpList_app rfl (.tmp 27) (.tmp 31) 166 rfl w2.heap.size 185 i0 (.agg #[.int .i64 0,.int .i64 0]) 2 16 Tryz.underlying166 hi0 hz0 hz1 hz2 rfl (by decide) (.slice Am k cm) k _ rfl (HOw.out.alloc _) (wr.heap.size+1) (some ⟨wr.heap.size,0,none⟩) 1 1 [.int .i64 y,.int .i64 x] rfl rfl (Rd.new _ _ _ _) (by simp[Value.oneCell']) (by unfold maxLen;omega) (by omega) (by simp;omega) ?_)
   intro A' c' y3 own3 hg3 hat3
   rw[HSN.out] at own3
   have HO3:=hide own3
   have HB3:=hide (app_below (HBw.out.alloc hsz _) (HOw.out.alloc _) hg3 (by simp;omega) (Nat.le_refl _))
   clear own3 hg3 hat3 HOw HBw d0
   go_wp2
   go_roundw
   case rel=>exact⟨k+1,A',c',by omega,by go_num,rfl,HO3,HB3⟩
   case measure=>simp[intOf];omega
  obtain rfl:k=L:=by omega
  have HFin:Hid (MsgPost w (lbMs true v x outs backs) (.returned (.slice Am k cm)) wr):=hide (by
   have hl:(l.map fun u=>(u,x)).length=k:=by rw[List.length_map];exact HLL.out
   have e9:lbMs true v x outs backs=l.map fun u=>(u,x):=by unfold lbMs;rw[if_pos rfl,HLl.out]
   refine⟨Am,cm,by rw[e9,hl],?_,HB2.out.trans (HBw.out.mono HB2.out.size)⟩
   rw[e9]
   have h:=HOw.out
   rw[List.take_of_length_le (by rw[hl];exact Nat.le_refl _)] at h
   rw[hl]
   exact own_base h HB2.out.size)
  go_wp2
  go_ret
  exact HFin.out
def putM (k:Int) (acc:List Ms) (m:Ms):List Ms:=match acc.getLast? with
 | some a=>if a.1=m.1 then acc.dropLast ++ [(a.1,combF k a.2 m.2)] else acc ++ [m]
 | none=>[m]
def foldM (k:Int) (l:List Ms):List Ms:=l.foldl (putM k) []
theorem foldM_snoc (k:Int) (l:List Ms) (m:Ms):foldM k (l ++ [m])=putM k (foldM k l) m:=by simp[foldM,List.foldl_append]
theorem foldM_take (k:Int) {d:List Ms} {i:Nat} {m:Ms} (h:d[i]?=some m):foldM k (d.take (i+1))=putM k (foldM k (d.take i)) m:=by
 rw[List.take_add_one,h];exact foldM_snoc k _ m
theorem putM_none {k:Int} {acc:List Ms} {m:Ms} (h:acc.length=0):putM k acc m=acc ++ [m]:=by
 obtain rfl:=List.eq_nil_of_length_eq_zero h
 rfl
theorem putM_far {k:Int} {acc:List Ms} {m a:Ms} {q:Nat} (h:acc.length=q+1) (ha:acc[q]?=some a) (hne:¬a.1=m.1):putM k acc m=acc ++ [m]:=by
 have:acc.getLast?=some a:=by rw[List.getLast?_eq_getElem?,h];exact ha
 unfold putM
 rw[this]
 exact if_neg hne
theorem putM_same {k:Int} {acc:List Ms} {m a:Ms} {q:Nat} (h:acc.length=q+1) (ha:acc[q]?=some a) (he:a.1=m.1):putM k acc m=acc.set q (a.1,combF k a.2 m.2):=by
 have h1:acc.getLast?=some a:=by rw[List.getLast?_eq_getElem?,h];exact ha
 unfold putM
 rw[h1]
 show (if a.1=m.1 then _ else _)=_
 rw[if_pos he]
 refine List.ext_getElem? fun t=>?_
 rw[List.getElem?_set,h]
 have hd:acc.dropLast.length=q:=by simp[h]
 by_cases c1:q=t
 ·subst c1
  rw[if_pos rfl,if_pos (by omega),List.getElem?_append_right (by omega),hd]
  simp
 rw[if_neg c1]
 by_cases c2:t<q
 ·rw[List.getElem?_append_left (by omega),List.getElem?_dropLast,if_pos (by omega)]
 rw[List.getElem?_append_right (by omega),hd,List.getElem?_eq_none (by simp;omega),List.getElem?_eq_none (by omega)]
theorem key_to (d:List Ms):KeyOn ltF (fun m:Ms=>m.1) d:=fun x y _ _=>by
 unfold ltF cmpI cmpOf
 by_cases h1:x.1<y.1
 ·simp[h1]
 by_cases h2:y.1<x.1
 ·simp[h1,h2]
 simp[h1,h2]
theorem ins0_any (w:World) (A:Option Addr) (c:Nat):Calls Tryz.prog 114 #[.slice A 0 c,.int .i64 0,.int .i64 0,.func (.func 106) #[] #[]] w fun e w'=>e = .returned (.tuple #[])∧w=w':=by
 go_enter Tryz.func114,Tryz.ntmps114
 go_wp2
 go_loopw [8] (fun v8 wr=>v8 = .int .i64 1∧wr=w) (fun _ _=>0)
 case atStart=>exact⟨rfl,rfl⟩
 case round=>
  obtain⟨rfl,e⟩:=hrel
  go_wp2
  go_end0
  exact⟨rfl,by first | rfl | exact e.symm⟩
theorem stb0_any (w:World) (A:Option Addr) (c:Nat):Calls Tryz.prog 111 #[.slice A 0 c,.int .i64 0,.func (.func 106) #[] #[]] w fun e w'=>e = .returned (.tuple #[])∧w=w':=by
 go_enter Tryz.func111,Tryz.ntmps111
 go_wp2
 go_loopw [7,8] (fun v7 v8 wr=>v7 = .int .i64 0∧v8 = .int .i64 20∧wr=w) (fun _ _ _=>0)
 case atStart=>exact⟨rfl,rfl,rfl⟩
 case round=>
  obtain⟨rfl,rfl,rfl⟩:=hrel
  go_wp2_with fail
  refine (ins0_any _ A c).mono ?_
  rintro _ w1 ⟨rfl,rfl⟩
  go_wp2
  go_loopw [6] (fun v6 w2=>v6 = .int .i64 20∧w2=wr) (fun _ _=>0)
  case atStart=>exact⟨rfl,rfl⟩
  case round=>
   obtain⟨rfl,e⟩:=hrel
   go_wp2
   go_end0
   exact⟨rfl,by first | rfl | exact e.symm⟩
theorem sort0_any (w:World) (A:Option Addr) (c:Nat):Calls Tryz.prog 105 #[.slice A 0 c,.func (.func 106) #[] #[]] w fun e w'=>e = .returned (.tuple #[])∧w=w':=by
 go_enter Tryz.func105,Tryz.ntmps105
 go_wp2_with fail
 refine (stb0_any _ A c).mono ?_
 rintro _ w1 ⟨rfl,rfl⟩
 go_wp2
 go_end0
 exact⟨rfl,rfl⟩
end Go.Proofs.YtpojjmbalgmcoaaGreat
namespace Go.Proofs.YtpojjmbalgmcoaaGreat
def Rise (l:List Ms):Prop:=l.Pairwise fun x y=>x.1<y.1
theorem last_split {l:List Ms} {a:Ms} (h:l.getLast?=some a):l=l.dropLast ++ [a]:=by
 have hne:l≠[]:=fun e=>by subst e;cases h
 have h2:=List.dropLast_concat_getLast hne
 have h3:l.getLast?=some (l.getLast hne):=by first | exact List.getLast?_eq_some_getLast hne | exact List.getLast?_eq_getLast hne
 rw[h3] at h
 injection h with h
 rw[h] at h2
 exact h2.symm
theorem putM_rise {k:Int} {acc:List Ms} {m:Ms} (h:Rise acc) (hm:∀a∈acc,a.1≤m.1):Rise (putM k acc m)∧∀a∈putM k acc m,a.1≤m.1:=by
 unfold putM
 cases hl:acc.getLast? with
 | none=>exact⟨List.pairwise_singleton _ _,fun a ha=>by simp at ha;rw[ha];exact Int.le_refl _⟩
 | some a=>
  have e:=last_split hl
  rw[e] at h hm
  obtain⟨h1,h2,h3⟩:=List.pairwise_append.1 h
  dsimp only
  split
  ·refine⟨List.pairwise_append.2 ⟨h1,List.pairwise_singleton _ _,fun x hx y hy=>?_⟩,fun x hx=>?_⟩
   ·simp at hy
    rw[hy]
    exact h3 x hx a (by simp)
   rcases List.mem_append.1 hx with g | g
   ·exact hm x (List.mem_append_left _ g)
   simp at g
   rw[g]
   exact hm a (by simp)
  rename_i hne
  have ha:a.1<m.1:=by have:=hm a (by simp);omega
  rw[e]
  refine⟨List.pairwise_append.2 ⟨h,List.pairwise_singleton _ _,fun x hx y hy=>?_⟩,fun x hx=>?_⟩
  ·simp at hy
   subst hy
   rcases List.mem_append.1 hx with g | g
   ·have:=h3 x g a (by simp);omega
   simp at g;rw[g];exact ha
  rcases List.mem_append.1 hx with g | g
  ·exact hm x g
  simp at g;rw[g];exact Int.le_refl _
theorem foldM_rise {k:Int}:∀{l acc:List Ms},Rise acc→(∀a∈acc,∀m∈l,a.1≤m.1)→l.Pairwise (fun x y=>x.1≤y.1)→Rise (l.foldl (putM k) acc):=by
 intro l
 induction l with
 | nil=>intro acc h _ _;exact h
 | cons m l ih=>
  intro acc h hm hp
  obtain⟨h1,h2⟩:=putM_rise (k:=k) h (fun a ha=>hm a ha m List.mem_cons_self)
  obtain⟨p1,p2⟩:=List.pairwise_cons.1 hp
  exact ih h1 (fun a ha x hx=>Int.le_trans (h2 a ha) (p1 x hx)) p2
theorem srt_pair {d:List Ms} (h:Srt (fun m:Ms=>m.1) 0 d.length d):d.Pairwise fun x y=>x.1≤y.1:=
 List.pairwise_iff_getElem.2 fun i j hi hj hij=>h i j _ _ (Nat.zero_le _) hij hj (List.getElem?_eq_getElem hi) (List.getElem?_eq_getElem hj)
theorem snd_rise {k:Int} {l d:List Ms} (h:StS ltF (fun m:Ms=>m.1) l.length l d):Rise (foldM k d):=by
 have hs:=(h.2 (key_to l)).1
 rw[←h.1.len] at hs
 exact foldM_rise List.Pairwise.nil (fun a ha=>by cases ha) (srt_pair hs)
theorem rise_ext:∀{a b:List Ms},Rise a→Rise b→(∀m,m∈a↔m∈b)→a=b:=by
 intro a
 induction a with
 | nil=>
  intro b _ _ h
  cases b with
  | nil=>rfl
  | cons y b=>exact absurd ((h y).2 List.mem_cons_self) (by simp)
 | cons x a ih=>
  intro b ha hb h
  obtain⟨a1,a2⟩:=List.pairwise_cons.1 ha
  cases b with
  | nil=>exact absurd ((h x).1 List.mem_cons_self) (by simp)
  | cons y b=>
   obtain⟨b1,b2⟩:=List.pairwise_cons.1 hb
   have hxy:x=y:=by
    rcases List.mem_cons.1 ((h x).1 List.mem_cons_self) with e | e
    ·exact e
    rcases List.mem_cons.1 ((h y).2 List.mem_cons_self) with e2 | e2
    ·exact e2.symm
    have:=b1 x e
    have:=a1 y e2
    omega
   subst hxy
   rw[ih a2 b2 fun m=>⟨fun hm=>?_,fun hm=>?_⟩]
   ·rcases List.mem_cons.1 ((h m).1 (List.mem_cons_of_mem _ hm)) with e | e
    ·subst e;have:=a1 m hm;omega
    exact e
   rcases List.mem_cons.1 ((h m).2 (List.mem_cons_of_mem _ hm)) with e | e
   ·subst e;have:=b1 m hm;omega
   exact e
def stepV (k:Int) (o:Option Int) (m:Ms):Option Int:=match o with
 | none=>some m.2
 | some v=>some (combF k v m.2)
def valF (k:Int) (l:List Ms) (c:Int):Option Int:=(l.filter fun m=>m.1 == c).foldl (stepV k) none
theorem valF_snoc (k:Int) (l:List Ms) (m:Ms) (c:Int):valF k (l ++ [m]) c=if m.1=c then stepV k (valF k l c) m else valF k l c:=by
 unfold valF
 rw[List.filter_append,List.foldl_append]
 by_cases h:m.1=c
 ·simp[h]
 simp[h]
def Holds9 (k:Int) (acc l:List Ms):Prop:=∀c v,(c,v)∈acc↔valF k l c=some v
theorem Holds9.none_ {k:Int} {acc l:List Ms} (h:Holds9 k acc l) {c:Int} (hc:∀v,(c,v)∉acc):valF k l c=none:=by
 cases hv:valF k l c with
 | none=>rfl
 | some v=>exact absurd ((h c v).2 hv) (hc v)
theorem putM_holds {k:Int} {acc l:List Ms} {m:Ms} (h:Rise acc) (hm:∀a∈acc,a.1≤m.1) (hh:Holds9 k acc l):Holds9 k (putM k acc m) (l ++ [m]):=by
 intro c v
 rw[valF_snoc]
 unfold putM
 cases hl:acc.getLast? with
 | none=>
  obtain rfl:acc=[]:=List.getLast?_eq_none_iff.1 hl
  rw[hh.none_ (fun v=>by simp)]
  dsimp only
  by_cases e:m.1=c
  ·subst e
   rw[if_pos rfl]
   obtain⟨a,b⟩:=m
   simp[stepV,eq_comm]
  rw[if_neg e]
  obtain⟨a,b⟩:=m
  simp
  intro h1
  exact absurd h1.symm e
 | some a=>
  have e:=last_split hl
  have hmem:∀x:Ms,x∈acc↔x∈acc.dropLast∨x=a:=fun x=>by
   conv=>lhs;rw[e]
   simp
  rw[e] at h
  obtain⟨h1,h2,h3⟩:=List.pairwise_append.1 h
  dsimp only
  by_cases hs:a.1=m.1
  ·rw[if_pos hs]
   by_cases ec:m.1=c
   ·rw[if_pos ec]
    have hv:valF k l c=some a.2:=(hh c a.2).1 ((hmem _).2 (.inr (by rw[←ec,←hs])))
    rw[hv]
    have hno:(c,v)∉acc.dropLast:=fun hx=>by
     have:=h3 _ hx a (by simp)
     dsimp only at this
     omega
    rw[List.mem_append]
    simp only[hno,false_or,List.mem_singleton,stepV,Option.some.injEq,Prod.mk.injEq]
    exact⟨fun g=>g.2.symm,fun g=>⟨by rw[hs,ec],g.symm⟩⟩
   rw[if_neg ec,←hh c v,hmem,List.mem_append]
   simp only[List.mem_singleton]
   constructor
   ·rintro (g | g)
    ·exact .inl g
    injection g with g1 _
    exact absurd (hs.symm.trans g1.symm) ec
   rintro (g | g)
   ·exact .inl g
   rw[←g] at hs
   exact absurd hs.symm ec
  rw[if_neg hs]
  have ha:a.1<m.1:=by have:=hm a ((hmem a).2 (.inr rfl));omega
  by_cases ec:m.1=c
  ·rw[if_pos ec]
   have hno:∀v,(c,v)∉acc:=fun v hx=>by
    rcases (hmem _).1 hx with g | g
    ·have:=h3 _ g a (by simp)
     dsimp only at this
     omega
    rw[←g] at ha
    dsimp only at ha
    omega
   rw[hh.none_ hno,List.mem_append]
   obtain⟨m1,m2⟩:=m
   dsimp only at ec
   subst ec
   simp[hno,stepV,eq_comm]
  rw[if_neg ec,←hh c v,List.mem_append]
  constructor
  ·rintro (g | g)
   ·exact g
   simp at g
   rw[←g] at ec
   exact absurd rfl ec
  exact fun g => .inl g
theorem fold_holds {k:Int}:∀{l acc pre:List Ms},Rise acc→(∀a∈acc,∀m∈l,a.1≤m.1)→l.Pairwise (fun x y=>x.1≤y.1)→Holds9 k acc pre→Holds9 k (l.foldl (putM k) acc) (pre ++ l):=by
 intro l
 induction l with
 | nil=>intro acc pre _ _ _ h;rw[List.append_nil];exact h
 | cons m l ih=>
  intro acc pre h hm hp hh
  have hm1:∀a∈acc,a.1≤m.1:=fun a ha=>hm a ha m List.mem_cons_self
  obtain⟨h1,h2⟩:=putM_rise (k:=k) h hm1
  obtain⟨p1,p2⟩:=List.pairwise_cons.1 hp
  have:=ih (pre:=pre ++ [m]) h1 (fun a ha x hx=>Int.le_trans (h2 a ha) (p1 x hx)) p2 (putM_holds h hm1 hh)
  rw[List.append_assoc] at this
  exact this
theorem holds_nil (k:Int):Holds9 k [] []:=fun c v=>by simp[valF]
theorem valF_stb {k:Int} {l d:List Ms} (h:Stb (fun m:Ms=>m.1) l d) (c:Int):valF k d c=valF k l c:=by
 unfold valF
 rw[h c]
theorem snd_holds {k:Int} {l d:List Ms} (h:StS ltF (fun m:Ms=>m.1) l.length l d):Holds9 k (foldM k d) l:=by
 obtain⟨hs,hst⟩:=h.2 (key_to l)
 rw[←h.1.len] at hs
 have:=fold_holds (k:=k) (l:=d) (acc:=[]) (pre:=[]) List.Pairwise.nil (fun a ha=>by cases ha) (srt_pair hs) (holds_nil k)
 rw[List.nil_append] at this
 intro c v
 rw[←valF_stb hst]
 exact this c v
theorem snd_only {k:Int} {l d r:List Ms} (h:StS ltF (fun m:Ms=>m.1) l.length l d) (hr:Rise r) (hh:Holds9 k r l):foldM k d=r:=
 rise_ext (snd_rise h) hr fun m=>(snd_holds h m.1 m.2).trans (hh m.1 m.2).symm
def addM (k:Int):List Ms→Ms→List Ms
 | [],m=>[m]
 | x :: l,m=>if x.1<m.1 then x :: addM k l m else if x.1=m.1 then (m.1,combF k x.2 m.2) :: l else m :: x :: l
theorem add_tos {k:Int} {m:Ms}:∀{l:List Ms} {x:Ms},x∈addM k l m→x.1=m.1∨∃y∈l,y.1=x.1:=by
 intro l
 induction l with
 | nil=>intro x h;simp[addM] at h;exact .inl (by rw[h])
 | cons y l ih=>
  intro x h
  unfold addM at h
  split at h
  ·rcases List.mem_cons.1 h with e | e
   ·exact .inr ⟨y,List.mem_cons_self,by rw[e]⟩
   rcases ih e with g | ⟨z,z1,z2⟩
   ·exact .inl g
   exact .inr ⟨z,List.mem_cons_of_mem _ z1,z2⟩
  split at h
  ·rcases List.mem_cons.1 h with e | e
   ·exact .inl (by rw[e])
   exact .inr ⟨x,List.mem_cons_of_mem _ e,rfl⟩
  rcases List.mem_cons.1 h with e | e
  ·exact .inl (by rw[e])
  exact .inr ⟨x,e,rfl⟩
theorem add_rise {k:Int} {m:Ms}:∀{l:List Ms},Rise l→Rise (addM k l m):=by
 intro l
 induction l with
 | nil=>intro _;exact List.pairwise_singleton _ _
 | cons y l ih=>
  intro h
  obtain⟨h1,h2⟩:=List.pairwise_cons.1 h
  unfold addM
  split
  ·refine List.pairwise_cons.2 ⟨fun x hx=>?_,ih h2⟩
   rcases add_tos hx with g | ⟨z,z1,z2⟩
   ·omega
   have:=h1 z z1;omega
  split
  ·refine List.pairwise_cons.2 ⟨fun x hx=>?_,h2⟩
   have:=h1 x hx
   dsimp only
   omega
  refine List.pairwise_cons.2 ⟨fun x hx=>?_,h⟩
  rcases List.mem_cons.1 hx with e | e
  ·rw[e];omega
  have:=h1 x e;omega
theorem add_else {k:Int} {m:Ms} {c v:Int} (hc:¬m.1=c):∀{l:List Ms},(c,v)∈addM k l m↔(c,v)∈l:=by
 intro l
 have hne:¬(c,v)=m:=fun e=>hc (by rw[←e])
 induction l with
 | nil=>simp[addM,hne]
 | cons y l ih=>
  unfold addM
  split
  ·rw[List.mem_cons,List.mem_cons]
   exact or_congr Iff.rfl ih
  split
  ·rename_i hy
   have h1:¬(c,v)=(m.1,combF k y.2 m.2):=fun e=>hc (by injection e with e1 _;exact e1.symm)
   have h2:¬(c,v)=y:=fun e=>hc (by rw[←hy,←e])
   rw[List.mem_cons,List.mem_cons]
   simp[h1,h2]
  rw[List.mem_cons]
  simp[hne]
theorem add_new {k:Int} {m:Ms} {v:Int}:∀{l:List Ms},(∀w,(m.1,w)∉l)→((m.1,v)∈addM k l m↔v=m.2):=by
 intro l
 induction l with
 | nil=>intro _;obtain⟨a,b⟩:=m;simp[addM]
 | cons y l ih=>
  intro h
  have hl:∀w,(m.1,w)∉l:=fun w hw=>h w (List.mem_cons_of_mem _ hw)
  have hy:¬y.1=m.1:=fun e=>h y.2 (by rw[←e];exact List.mem_cons_self)
  unfold addM
  rw[if_neg hy]
  split
  ·rw[List.mem_cons,ih hl]
   exact⟨fun g=>g.elim (fun e=>absurd (by rw[←e]) hy) id,.inr⟩
  rw[List.mem_cons]
  constructor
  ·rintro (e | e)
   ·rw[←e]
   exact absurd e (h v)
  rintro rfl
  exact .inl rfl
theorem add_old {k:Int} {m:Ms} {v w:Int}:∀{l:List Ms},Rise l→(m.1,w)∈l→((m.1,v)∈addM k l m↔v=combF k w m.2):=by
 intro l
 induction l with
 | nil=>intro _ h;cases h
 | cons y l ih=>
  intro hr h
  obtain⟨h1,h2⟩:=List.pairwise_cons.1 hr
  unfold addM
  split
  ·rename_i hlt
   have hy:¬(m.1,w)=y:=fun e=>by rw[←e] at hlt;dsimp only at hlt;omega
   have hy2:¬(m.1,v)=y:=fun e=>by rw[←e] at hlt;dsimp only at hlt;omega
   rcases List.mem_cons.1 h with e | e
   ·exact absurd e hy
   rw[List.mem_cons,ih h2 e]
   simp[hy2]
  rename_i hlt
  split
  ·rename_i he
   have hno:∀u,(m.1,u)∉l:=fun u hu=>by have:=h1 _ hu;dsimp only at this;omega
   rcases List.mem_cons.1 h with e | e
   ·rw[←e,List.mem_cons]
    simp[hno]
   exact absurd e (hno w)
  rename_i he
  rcases List.mem_cons.1 h with e | e
  ·exact absurd (by rw[←e]) he
  have:=h1 _ e;dsimp only at this;omega
theorem add_holds {k:Int} {l pre:List Ms} {m:Ms} (hr:Rise l) (h:Holds9 k l pre):Holds9 k (addM k l m) (pre ++ [m]):=by
 intro c v
 rw[valF_snoc]
 by_cases e:m.1=c
 ·subst e
  rw[if_pos rfl]
  cases hv:valF k pre m.1 with
  | none=>rw[add_new (fun w hw=>by have:=(h m.1 w).1 hw;rw[hv] at this;cases this)];simp[stepV,eq_comm]
  | some w=>rw[add_old hr ((h m.1 w).2 hv)];simp[stepV,eq_comm]
 rw[if_neg e,add_else e]
 exact h c v
def docM (k:Int) (l:List Ms):List Ms:=l.foldl (addM k) []
theorem doc_ok (k:Int):∀(l acc pre:List Ms),Rise acc→Holds9 k acc pre→Rise (l.foldl (addM k) acc)∧Holds9 k (l.foldl (addM k) acc) (pre ++ l):=by
 intro l
 induction l with
 | nil=>intro acc pre h1 h2;rw[List.append_nil];exact⟨h1,h2⟩
 | cons m l ih=>
  intro acc pre h1 h2
  have:=ih (addM k acc m) (pre ++ [m]) (add_rise h1) (add_holds h1 h2)
  rw[List.append_assoc] at this
  exact this
theorem snd_doc {k:Int} {l d:List Ms} (h:StS ltF (fun m:Ms=>m.1) l.length l d):foldM k d=docM k l:=by
 obtain⟨h1,h2⟩:=doc_ok k l [] [] List.Pairwise.nil (holds_nil k)
 exact snd_only h h1 (by rw[List.nil_append] at h2;exact h2)
theorem add_len (k:Int) (m:Ms):∀(l:List Ms),(addM k l m).length≤l.length+1:=by
 intro l
 induction l with
 | nil=>simp[addM]
 | cons y l ih=>
  unfold addM
  split
  ·rw[List.length_cons,List.length_cons];omega
  split
  ·rw[List.length_cons,List.length_cons];omega
  simp
open Go.RowKit
theorem Mss.rd {w:World} {B:Nat} {A:Option Addr} {es:List Ms} (h:Mss w B A es):Rd w B A (msFlat es):=fun hn=>by
 obtain⟨b,off,rfl,hb,hc⟩:=h (fun e=>by subst e;exact hn rfl)
 refine⟨b,off,rfl,hb,fun j u hu=>?_⟩
 have hj:=(List.getElem?_eq_some_iff.1 hu).1
 rw[msFlat_len] at hj
 have hi:j / 2<es.length:=by omega
 obtain⟨cs,hl,rfl,hcc⟩:=hc (j / 2) _ (List.getElem?_eq_getElem hi)
 have hjj:j / 2*2+j % 2=j:=by omega
 have h3:j % 2<2:=by omega
 obtain⟨u',hu'⟩:∃u',([.int .i64 es[j / 2].1,.int .i64 es[j / 2].2]:List Value)[j % 2]?=some u':=by
  rcases (show j % 2=0∨j % 2=1 by omega) with h | h <;> rw[h] <;> exact⟨_,rfl⟩
 have h1:=msFlat_get (List.getElem?_eq_getElem hi) (j % 2) u' hu'
 rw[hjj,hu] at h1
 cases h1
 have h2:=hcc (j % 2) u hu'
 rw[hjj] at h2
 exact h2
end Go.Proofs.YtpojjmbalgmcoaaGreat

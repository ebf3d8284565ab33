/- Lemmas: Rfe. -/
import Derived.RangeFuncNested
import Derived.Test.YtpojjmbalgmcoaaGreatStWw1
set_option linter.unusedVariables false
set_option linter.unusedSimpArgs false
set_option maxRecDepth 100000
set_option maxHeartbeats 16000000
namespace Go.Proofs.YtpojjmbalgmcoaaGreat
open Go.RowKit
section
variable {F:Fence} {n:Nat} {P:Program} {α:Type}
def SeqE (F:Fence) (n:Nat) (P:Program) (g:Nat) (lb:Array Value) (encs:α→Array Value) (Kp:World→World→Prop) (E:α→World→Prop) (S:List α→Prop) (N:Nat) (w:World):Prop:=
 ∀(l:Nat) (J:List α→World→Prop) (W:World),Below w.heap.size w W→AbidesFrom W.heap.size J →
  (∀pre x V,J pre V→E x V→pre.length<N→YieldAt F (n-1) P l (encs x) V fun e V'=>e = .returned (.bool true)∧J (pre ++ [x]) V'∧Kp V V') →
  J [] W→CallsIn F n P g (#[.func (.yield l) #[] #[]] ++ lb) W fun e W'=>(∃v,e = .returned v)∧∃xs,S xs∧J xs W'
def Bk (l d:Nat) (r:Loop) (W:World):Prop:=W.heap[l]?=some (.loop r)∧W.heap[d]?=some (.deferred (some []))
theorem Bk.put {l d:Nat} {r r':Loop} {W:World} (h:Bk l d r W) (hne:l≠d):Bk l d r' (W.putObj l (.loop r')):=
 ⟨World.putObj_heap_same (Array.getElem?_eq_some_iff.1 h.1).1,(World.putObj_heap_other hne.symm).trans h.2⟩
theorem Bk.grow {l d:Nat} {r:Loop} {W W':World} {row:Option Nat} (h:Bk l d r W) (hg:W.grownBy W' row) (hr:∀k,row=some k→∃o:Obj,W.heap[k]?=some o∧o.isWalk=true):Bk l d r W':=
 ⟨(grownBy_keeps hg hr h.1 rfl).trans h.1,(grownBy_keeps hg hr h.2 rfl).trans h.2⟩
def RoundE (B:Nat) (Kp:World→World→Prop) (I:List α→World→Prop) (xs:List α) (W:World) (e:Exit) (_:Act) (W':World):Prop:=e = .normal∧KeepsFrom B W W'∧Kp W W'∧I xs W'
theorem rangeFunc_E {g:Operand} {ps:Array Tmp} {assign body:Code} {Q:Exit→Act→World→Prop} {a:Act} {w:World}
  (hro:F.round=none) (h1:1≤n) {gf:Nat} {lb:Array Value} (hg:a.eval g = .func (.func gf) #[] lb) (hF:F.fn gf) (eg:∀args w,(callFunc gf args).run P w = .ok (.enter gf args) w)
  {encs:α→Array Value} {Kp:World→World→Prop} {E:α→World→Prop} {S:List α→Prop} {N:Nat} (hseq:SeqE F (n-1) P gf lb encs Kp E S N w)
  (hKt:∀{A B C:World},Kp A B→Kp B C→Kp A C) (hKp:∀(W:World) (l:Nat) (o o':Obj),w.heap.size≤l→W.heap[l]?=some o→o.isCells=false→Kp W (W.putObj l o'))
  (hps:∀x,(encs x).size=ps.size) (I:List α→World→Prop) (hI:OwnFrom w.heap.size I) (h0:I [] w) (E2:α→Act→World→Prop)
  (hEp:∀(x:α) (b:Act) (W:World) (l:Nat) (o o':Obj),w.heap.size≤l→W.heap[l]?=some o→o.isCells=false→E2 x b W→E2 x b (W.putObj l o'))
  (hassign:∀(l:Nat) (pre:List α) (x:α) (W:World) (K:Act→World→Prop),I pre W→E x W→pre.length<N→(∀b W',I pre W'→E2 x b W'→KeepsFrom w.heap.size W W'→Kp W W'→K b W') →
   assign.wpIn (F.inRound l) (n-1-1) P (Exit.then K (fun _ _ _=>False)) { tmps:=(ps.zip (encs x)).foldl (fun t (p,v)=>t.setIfInBounds p v) a.tmps,defers:=[] } W)
  (hbody:∀(l:Nat) (pre:List α) (x:α) (b:Act) (W:World),I pre W→E2 x b W→pre.length<N→body.wpIn (F.inRound l) (n-1-1) P (RoundE w.heap.size Kp I (pre ++ [x]) W) b W)
  (hdone:∀(D:Nat) (xs:List α) (W:World),w.heap.size≤D→S xs→I xs W→W.heap[D]?=some (.deferred (some []))→Q .normal { a with defers:={ target:=.collected D,args:=#[] } :: a.defers } W) :
  (Code.rangeFunc g ps assign body).wpIn F n P Q a w:=by
 refine wpIn_rangeFunc fun fn hfn=>?_
 rw[hro]
 let rec':LoopState→Option Code→Loop:=fun st pe=>{ state:=st,pending:=pe,fn,tmps:=a.tmps,params:=ps,assign,body,defers:=w.heap.size }
 have hne:w.heap.size+1≠w.heap.size:=by omega
 have hb:Bk (w.heap.size+1) w.heap.size (rec' .ready none) ((w.alloc (.deferred (some []))).alloc (.loop (rec' .ready none))):=by
  refine⟨?_,(Below.heap_alloc _ _ _ (by simp)).trans (World.alloc_heap_new w _)⟩
  have h:=World.alloc_heap_new (w.alloc (.deferred (some []))) (.loop (rec' .ready none))
  rwa [World.size_alloc] at h
 generalize hW:(w.alloc (.deferred (some []))).alloc (.loop (rec' .ready none))=W1 at hb
 have hBW:Below w.heap.size w W1:=by rw[←hW];exact ((Below.refl _ w).alloc (Nat.le_refl _) _).alloc (by simp) _
 have hsz:w.heap.size≤W1.heap.size:=hBW.size
 refine⟨w.heap.size+1,[{ target:=.collected w.heap.size,args:=#[] }],W1,{ target:=.fn (.func gf) lb,args:=#[.func (.yield (w.heap.size+1)) #[] #[]] },W1,gf,#[.func (.yield (w.heap.size+1)) #[] #[]] ++ lb,W1,?_,?_,?_,?_,fun _=>h1,?_⟩
 ·rw[←hW]
  exact run_enterLoop_outer _ _ _ _ _
 ·simp only[resolve,hg]
  simp[go_sem]
 ·intro f hf
  simp only[Target.leads] at hf
  simp at hf
  subst hf
  exact hF
 ·simp[invoke,go_sem,eg]
 have hwalk:∀{A:World} {row:Option Nat},(∀r,row=some r→W1.heap.size≤r∧∃o:Obj,A.heap[r]?=some o∧o.isWalk=true)→∀r,row=some r→w.heap.size≤r∧∃o:Obj,A.heap[r]?=some o∧o.isCells=false:=fun h r e=>by
  obtain⟨h1,o,h2,h3⟩:=h r e
  exact⟨by omega,o,h2,Obj.not_cells_of_walk h3⟩
 refine (hseq (w.heap.size+1) (fun xs V=>I xs V∧Bk (w.heap.size+1) w.heap.size (rec' .ready none) V) W1 hBW
  (fun xs A B row h hgr hr=>⟨hI xs A B row h.1 hgr (hwalk hr),h.2.grow hgr (fun r e=>(hr r e).2)⟩) ?_ ⟨by rw[←hW];exact hI.alloc _ (hI.alloc _ h0),hb⟩).mono ?_
 ·rintro pre x V ⟨hi,hk⟩ hE hlen
  refine⟨fn,_,assign,body,run_yield (P:=P) (args:=encs x) hk.1 (hps x),roundIn_of_wpIn hfn (hassign _ pre x V _ hi hE hlen fun b V1 hi1 hE1 hf1 hp1=>?_)⟩
  have hk1:Bk (w.heap.size+1) w.heap.size (rec' .ready none) V1:=⟨hf1.same _ _ (by omega) hk.1 rfl,hf1.same _ _ (Nat.le_refl _) hk.2 rfl⟩
  refine⟨_,run_beginRound hk1.1 rfl,?_⟩
  have hk2:Bk (w.heap.size+1) w.heap.size (rec' .busy none) (V1.putObj (w.heap.size+1) (.loop (rec' .busy none))):=hk1.put hne
  refine wpIn_mono (hbody _ pre x b _ (hI.putObj _ hi1 (by omega) hk1.1 rfl) (hEp _ _ _ _ _ _ (by omega) hk1.1 rfl hE1) hlen) ?_
  rintro e a3 V3 ⟨rfl,hkf,hkp,hi3⟩
  have hk3:Bk (w.heap.size+1) w.heap.size (rec' .busy none) V3:=⟨hkf.same _ _ (by omega) hk2.1 rfl,hkf.same _ _ (Nat.le_refl _) hk2.2 rfl⟩
  exact⟨_,_,run_endRound (P:=P) none hk3.1,rfl,⟨hI.putObj _ hi3 (by omega) hk3.1 rfl,hk3.put hne⟩,hKt (hKt (hKt hp1 (hKp _ _ _ _ (by omega) hk1.1 rfl)) hkp) (hKp _ _ _ _ (by omega) hk3.1 rfl)⟩
 rintro e V ⟨⟨v,rfl⟩,xs,hS,hi,hk⟩
 exact⟨none,_,run_endLoop (P:=P) hk.1 (by simp[rec']),hdone _ xs _ (Nat.le_refl _) hS (hI.putObj _ hi (by omega) hk.1 rfl) ((World.putObj_heap_other hne.symm).trans hk.2)⟩
end
end Go.Proofs.YtpojjmbalgmcoaaGreat

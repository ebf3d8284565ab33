/- Lemmas: Spv, Mlf. -/
import Derived.Lib.Hide
import Derived.Laws.MakeOwn
import Derived.Test.YtpojjmbalgmcoaaGreatStWw1
set_option linter.unusedVariables false
set_option linter.unusedSimpArgs false
set_option maxRecDepth 100000
set_option maxHeartbeats 16000000
namespace Go.Proofs.YtpojjmbalgmcoaaGreat
open Go.RowKit
abbrev Ml:=Bool×Int
structure SPart where
 step:Int
 own:List Int
 vals:List Int
 chg:List Bool
 inb:List Ml
deriving DecidableEq
def mlFlat (l:List Ml):List Value:=l.flatMap fun m=>[.bool m.1,.int .i64 m.2]
theorem mlFlat_len (l:List Ml):(mlFlat l).length=l.length*2:=by
 induction l with
 | nil=>rfl
 | cons e l ih=>unfold mlFlat at ih ⊢;rw[List.flatMap_cons,List.length_append,ih,List.length_cons];simp;omega
theorem mlFlat_app (a b:List Ml):mlFlat a ++ mlFlat b=mlFlat (a ++ b):=by simp[mlFlat]
theorem mlFlat_get {l:List Ml}:∀{i:Nat} {e:Ml},l[i]?=some e→(mlFlat l)[i*2]?=some (.bool e.1)∧(mlFlat l)[i*2+1]?=some (.int .i64 e.2):=by
 induction l with
 | nil=>intro i e h;simp at h
 | cons x l ih=>
  intro i e h
  unfold mlFlat
  rw[List.flatMap_cons]
  cases i with
  | zero=>
   simp only[List.getElem?_cons_zero,Option.some.injEq] at h
   subst h
   exact⟨rfl,rfl⟩
  | succ i=>
   have:=ih (i:=i) (by simpa using h)
   unfold mlFlat at this
   rw[List.getElem?_append_right (by simp;omega),List.getElem?_append_right (by simp;omega)]
   refine⟨?_,?_⟩
   ·rw[←this.1];congr 1;simp;omega
   rw[←this.2];congr 1;simp;omega
def i64s (l:List Int):List Value:=l.map (Value.int .i64)
theorem i64s_len (l:List Int):(i64s l).length=l.length:=by simp[i64s]
theorem i64s_get {l:List Int} {i:Nat} {x:Int} (h:l[i]?=some x):(i64s l)[i]?=some (.int .i64 x):=by simp[i64s,h]
theorem i64s_app (a b:List Int):i64s a ++ i64s b=i64s (a ++ b):=by simp[i64s]
structure SIn (w:World) (p:SPart) (Ao Av Ac Ai:Option Addr):Prop where
 own:Rd w w.heap.size Ao (i64s p.own)
 vals:Rd w w.heap.size Av (i64s p.vals)
 chg:Rd w w.heap.size Ac (bools p.chg)
 inb:Rd w w.heap.size Ai (mlFlat p.inb)
theorem SIn.next {w w':World} {p:SPart} {Ao Av Ac Ai:Option Addr} (h:SIn w p Ao Av Ac Ai) (hb:Below w.heap.size w w'):SIn w' p Ao Av Ac Ai:=⟨h.own.next hb,h.vals.next hb,h.chg.next hb,h.inb.next hb⟩
theorem SIn.drew {w:World} {p:SPart} {Ao Av Ac Ai:Option Addr} (h:SIn w p Ao Av Ac Ai):SIn w.drew p Ao Av Ac Ai:=⟨h.own,h.vals,h.chg,h.inb⟩
def SLen (p:SPart) (no nv nc ni:Nat):Prop:=p.own.length=no∧p.vals.length=nv∧p.chg.length=nc∧p.inb.length=ni
theorem Rd.at1 {w:World} {A:Option Addr} {xs:List Value} {i:Nat} {u:Value} (h:Rd w w.heap.size A xs) (hu:xs[i]?=some u):∃b off,A=some ⟨b,off,none⟩∧b<w.heap.size∧w.cell? ⟨b,off+i,none⟩=some u:=by
 obtain⟨b,off,e,hb,hc⟩:=h.at_ (List.getElem?_eq_some_iff.1 hu).1
 exact⟨b,off,e,hb,hc i u hu⟩
theorem Rd.ml {w:World} {A:Option Addr} {l:List Ml} {i:Nat} {m:Ml} (h:Rd w w.heap.size A (mlFlat l)) (hm:l[i]?=some m):∃b off,A=some ⟨b,off,none⟩∧b<w.heap.size∧w.cell? ⟨b,off+i*2,none⟩=some (.bool m.1)∧w.cell? ⟨b,off+i*2+1,none⟩=some (.int .i64 m.2):=by
 obtain⟨h0,h1⟩:=mlFlat_get hm
 obtain⟨b,off,e,hb,hc⟩:=h.at_ (List.getElem?_eq_some_iff.1 h0).1
 exact⟨b,off,e,hb,hc _ _ h0,by rw[Nat.add_assoc];exact hc _ _ h1⟩
def inB (x:Int):Bool:=decide (0≤x) && decide (x≤4611686018427387904)
theorem inB_iff {x:Int}:inB x=true↔0≤x∧x≤4611686018427387904:=by simp[inB]
def rightL:Int→List Int→List Int→List Ml→Bool
 | last,v :: own,x :: vals,m :: inb=>decide (last<v) && decide (v<512) && inB x && (!m.1 || inB m.2) && rightL v own vals inb
 | _,_,_,_=>true
def rightB (p:SPart):Bool:=decide (0≤p.step) && decide (p.step≤2000) && decide (p.vals.length=p.own.length) && decide (p.chg.length=p.own.length) && decide (p.inb.length=p.own.length) && rightL (-1) p.own p.vals p.inb
theorem rightL_step {own vals:List Int} {inb:List Ml} {i:Nat} {last v x:Int} {m:Ml} (h1:own[i]?=some v) (h2:vals[i]?=some x) (h3:inb[i]?=some m) :
  rightL last (own.drop i) (vals.drop i) (inb.drop i)=(decide (last<v) && decide (v<512) && inB x && (!m.1 || inB m.2) && rightL v (own.drop (i+1)) (vals.drop (i+1)) (inb.drop (i+1))):=by
 obtain⟨a1,a2⟩:=List.getElem?_eq_some_iff.1 h1
 obtain⟨b1,b2⟩:=List.getElem?_eq_some_iff.1 h2
 obtain⟨c1,c2⟩:=List.getElem?_eq_some_iff.1 h3
 rw[List.drop_eq_getElem_cons a1,List.drop_eq_getElem_cons b1,List.drop_eq_getElem_cons c1,a2,b2,c2]
 rfl
theorem rightL_nil (last:Int) (vals:List Int) (inb:List Ml):rightL last [] vals inb=true:=by
 unfold rightL;rfl
theorem right_lens {p:SPart} {n nv nc ni:Nat} (h:SLen p n nv nc ni):rightB p=(decide (0≤p.step) && decide (p.step≤2000) && decide (nv=n) && decide (nc=n) && decide (ni=n) && rightL (-1) p.own p.vals p.inb):=by
 unfold rightB
 rw[h.1,h.2.1,h.2.2.1,h.2.2.2]
theorem mlFlat_set:∀(l:List Ml) (v:Nat) (m:Ml),((mlFlat l).set (v*2) (.bool m.1)).set (v*2+1) (.int .i64 m.2)=mlFlat (l.set v m)
 | [],v,m=>by simp[mlFlat]
 | a :: l,0,m=>by simp[mlFlat]
 | a :: l,v+1,m=>by
  have h:=mlFlat_set l v m
  unfold mlFlat at h ⊢
  rw[List.flatMap_cons,List.set_cons_succ,List.flatMap_cons,←h,show (v+1)*2=(v*2+1)+1 by omega]
  simp
theorem mlFlat_rep (n:Nat) (j:Nat) (h:j<n*2):(mlFlat (List.replicate n ((false,0):Ml)))[j]?=some (if j % 2=0 then .bool false else .int .i64 0):=by
 have hj:j / 2<n:=by omega
 obtain⟨h0,h1⟩:=mlFlat_get (l:=List.replicate n ((false,0):Ml)) (i:=j / 2) (e:=(false,0)) (by simp[hj])
 rcases (show j % 2=0∨j % 2=1 by omega) with h2 | h2
 ·rw[show j / 2*2=j by omega] at h0
  rw[h0,if_pos h2]
 rw[show j / 2*2+1=j by omega] at h1
 rw[h1,if_neg (by omega)]
theorem made_m (n:Nat):madeCells #[.bool false,.int .i64 0] (n*2)=(mlFlat (List.replicate n ((false,0):Ml))).toArray:=by
 apply Array.ext
 ·simp[madeCells,mlFlat_len]
 intro i h1 h2
 have hi:i<n*2:=by simpa [madeCells] using h1
 have h:=mlFlat_rep n i hi
 rw[List.getElem?_eq_getElem (by rw[mlFlat_len];simpa using hi)] at h
 have h':=Option.some.inj h
 simp only[List.getElem_toArray]
 rw[h']
 unfold madeCells
 rcases (show i % 2=0∨i % 2=1 by omega) with h2 | h2 <;> simp[h2]
end Go.Proofs.YtpojjmbalgmcoaaGreat

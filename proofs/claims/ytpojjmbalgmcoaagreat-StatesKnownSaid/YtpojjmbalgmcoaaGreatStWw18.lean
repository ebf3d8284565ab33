/- Lemmas: Jpw. -/
import Derived.Test.YtpojjmbalgmcoaaGreatStWw10
import Derived.Test.YtpojjmbalgmcoaaGreatStWw17
set_option linter.unusedVariables false
set_option linter.unusedSimpArgs false
set_option maxRecDepth 100000
set_option maxHeartbeats 16000000
namespace Go.Proofs.YtpojjmbalgmcoaaGreat
open Go.RowKit
def allV (ps:List SPart) (n:Nat):List Int:=(List.range n).map (jV ps)
def allC (ps:List SPart) (n:Nat):List Bool:=(List.range n).map (jC ps)
def allM (ps:List SPart) (n:Nat):List Ml:=(List.range n).map (jM ps)
theorem right_lens3 {p:SPart} (h:rightB p=true):p.vals.length=p.own.length∧p.chg.length=p.own.length∧p.inb.length=p.own.length:=by
 unfold rightB at h
 simp only[Bool.and_eq_true,decide_eq_true_eq] at h
 exact⟨h.1.1.1.2,h.1.1.2,h.1.2⟩
theorem range_getD {α:Type} (f:Nat→α) (z:α) {n v:Nat} (h:v<n):((List.range n).map f).getD v z=f v:=by
 rw[List.getD_eq_getElem?_getD,List.getElem?_map,List.getElem?_range h]
 rfl
theorem pick_gen {α:Type} {ps:List SPart} {w n:Nat} {p:SPart} (hp:ps[w]?=some p) (ho:p.own=ownUpto (ps.length:Int) (w:Int) n) (f:Nat→α) (z:α) (r:List α) (hr:r.length=p.own.length) (hf:∀v,f v=r.getD (ix ps v) z∨wk ps v≠p) :
  p.own.map (fun v=>((List.range n).map f).getD v.toNat z)=r:=by
 apply List.ext_getElem?
 intro j
 rw[List.getElem?_map]
 by_cases hj:j<p.own.length
 ·obtain⟨x,hx⟩:∃x,p.own[j]?=some x:=⟨_,List.getElem?_eq_getElem hj⟩
  have hx':=hx
  rw[ho] at hx'
  obtain⟨v,rfl⟩:=own_nat_ hx'
  have hv:=(own_of hx').2
  obtain⟨h1,h2⟩:=j_at hp ho hx
  rw[hx,Option.map_some,Int.toNat_natCast,range_getD f z hv]
  rcases hf v with h | h
  ·rw[h,h2,List.getD_eq_getElem?_getD,List.getElem?_eq_getElem (by omega)]
   rfl
  exact absurd h1 h
 rw[List.getElem?_eq_none (by omega),List.getElem?_eq_none (by omega)]
 rfl
theorem pick_all {ps:List SPart} {w n:Nat} {p:SPart} {st:Int} (hp:ps[w]?=some p) (ho:p.own=ownUpto (ps.length:Int) (w:Int) n) (hst:p.step=st) (hr:rightB p=true) :
  pickP st (allV ps n) (allC ps n) (allM ps n) (ownUpto (ps.length:Int) (w:Int) n)=p:=by
 obtain⟨l1,l2,l3⟩:=right_lens3 hr
 have h1:=pick_gen hp ho (jV ps) 0 p.vals l1 (fun v=>by by_cases h:wk ps v=p;exact .inl (by unfold jV;rw[h]);exact .inr h)
 have h2:=pick_gen hp ho (jC ps) false p.chg l2 (fun v=>by by_cases h:wk ps v=p;exact .inl (by unfold jC;rw[h]);exact .inr h)
 have h3:=pick_gen hp ho (jM ps) (false,0) p.inb l3 (fun v=>by by_cases h:wk ps v=p;exact .inl (by unfold jM;rw[h]);exact .inr h)
 unfold pickP pv pc pm allV allC allM
 rw[←ho,h1,h2,h3,←hst]
theorem sameS_self (p:SPart):sameS p p=true:=by simp[sameS,eqL_self]
theorem rightL_at:∀{own vals:List Int} {inb:List Ml} {last:Int} {j:Nat} {v x:Int} {m:Ml},rightL last own vals inb=true→own[j]?=some v→vals[j]?=some x→inb[j]?=some m→inB x=true∧(!m.1 || inB m.2)=true
 | [],_,_,_,_,_,_,_,_,h,_,_=>by simp at h
 | _ :: _,[],_,_,_,_,_,_,_,_,h,_=>by simp at h
 | _ :: _,_ :: _,[],_,_,_,_,_,_,_,_,h=>by simp at h
 | a :: own,b :: vals,c :: inb,last,0,v,x,m,hr,h1,h2,h3=>by
  simp only[List.getElem?_cons_zero,Option.some.injEq] at h1 h2 h3
  subst h1 h2 h3
  unfold rightL at hr
  simp only[Bool.and_eq_true] at hr
  exact⟨hr.1.1.2,hr.1.2⟩
 | a :: own,b :: vals,c :: inb,last,j+1,v,x,m,hr,h1,h2,h3=>by
  simp only[List.getElem?_cons_succ] at h1 h2 h3
  unfold rightL at hr
  simp only[Bool.and_eq_true] at hr
  exact rightL_at hr.2 h1 h2 h3
theorem right_at {p:SPart} (h:rightB p=true) {j:Nat} (hj:j<p.own.length):inB (p.vals.getD j 0)=true∧(!(p.inb.getD j (false,0)).1 || inB (p.inb.getD j (false,0)).2)=true:=by
 obtain⟨l1,l2,l3⟩:=right_lens3 h
 unfold rightB at h
 simp only[Bool.and_eq_true] at h
 rw[List.getD_eq_getElem?_getD,List.getD_eq_getElem?_getD,List.getElem?_eq_getElem (show j<p.vals.length by omega),List.getElem?_eq_getElem (show j<p.inb.length by omega)]
 exact rightL_at h.2 (List.getElem?_eq_getElem hj) (List.getElem?_eq_getElem (by omega)) (List.getElem?_eq_getElem (by omega))
theorem rightL_whole (V:List Int) (M:List Ml) (n:Nat) (hn:n≤512) (hV:V.length=n) (hM:M.length=n) (hv:∀u,u<n→inB (V.getD u 0)=true∧(!(M.getD u (false,0)).1 || inB (M.getD u (false,0)).2)=true) :
  ∀(d i:Nat),i+d=n→rightL ((i:Int)-1) ((upto n).drop i) (V.drop i) (M.drop i)=true
 | 0,i,h=>by
  rw[List.drop_of_length_le (by rw[upto_len];omega)]
  exact rightL_nil _ _ _
 | d+1,i,h=>by
  have hi:i<n:=by omega
  have h0:(upto n)[i]?=some (i:Int):=by unfold upto;rw[List.getElem?_map,List.getElem?_range hi];rfl
  have h1:V[i]?=some (V.getD i 0):=by rw[List.getD_eq_getElem?_getD,List.getElem?_eq_getElem (by omega)];rfl
  have h2:M[i]?=some (M.getD i (false,0)):=by rw[List.getD_eq_getElem?_getD,List.getElem?_eq_getElem (by omega)];rfl
  rw[rightL_step h0 h1 h2]
  have hr:=rightL_whole V M n hn hV hM hv d (i+1) (by omega)
  rw[show ((i+1:Nat):Int)-1=(i:Int) by omega] at hr
  obtain⟨k1,k2⟩:=hv i hi
  simp only[Bool.and_eq_true,decide_eq_true_eq]
  exact⟨⟨⟨⟨by omega,by omega⟩,k1⟩,k2⟩,hr⟩
theorem right_whole {st:Int} {V:List Int} {C:List Bool} {M:List Ml} {n:Nat} (hs:0≤st∧st≤2000) (hn:n≤512) (hV:V.length=n) (hC:C.length=n) (hM:M.length=n) (hv:∀u,u<n→inB (V.getD u 0)=true∧(!(M.getD u (false,0)).1 || inB (M.getD u (false,0)).2)=true):rightB (wholeP st V C M)=true:=by
 have h:=rightL_whole V M n hn hV hM hv n 0 (by omega)
 rw[show ((0:Nat):Int)-1=-1 by rfl,List.drop_zero,List.drop_zero,List.drop_zero] at h
 unfold rightB wholeP
 rw[hV,hC,hM,upto_len]
 simp only[Bool.and_eq_true,decide_eq_true_eq]
 exact⟨⟨⟨⟨⟨hs.1,hs.2⟩,trivial⟩,trivial⟩,trivial⟩,h⟩
theorem right_all {ps:List SPart} {n:Nat} {st:Int} (hn:n≤512) (hs:0≤st∧st≤2000) (hr:∀u,u<n→rightB (wk ps u)=true∧ix ps u<(wk ps u).own.length):rightB (wholeP st (allV ps n) (allC ps n) (allM ps n))=true:=by
 refine right_whole hs hn (by simp[allV]) (by simp[allC]) (by simp[allM]) fun u hu=>?_
 unfold allV allM
 rw[range_getD _ _ hu,range_getD _ _ hu]
 exact right_at (hr u hu).1 (hr u hu).2
theorem right_step {p:SPart} (h:rightB p=true):0≤p.step∧p.step≤2000:=by
 unfold rightB at h
 simp only[Bool.and_eq_true,decide_eq_true_eq] at h
 exact⟨h.1.1.1.1.1,h.1.1.1.1.2⟩
theorem allV_len (ps:List SPart) (n:Nat):(allV ps n).length=n:=by simp[allV]
theorem take_zero {ps:List SPart} {n w:Nat} {st:Int} (h1:1≤ps.length) (h2:ps.length≤64) (hw:w<ps.length) (hn:1≤n) (hr:rightB (wholeP st (allV ps n) (allC ps n) (allM ps n))=true):takeE st (allV ps n) (allC ps n) (allM ps n) (ps.length:Int) (w:Int)=0:=by
 unfold takeE
 rw[if_neg (by omega),if_neg (by rw[allV_len,hr];simp;omega)]
theorem take_none {ps:List SPart} {w:Nat} {st:Int} (h1:1≤ps.length) (h2:ps.length≤64) (hw:w<ps.length):takeE st (allV ps 0) (allC ps 0) (allM ps 0) (ps.length:Int) (w:Int)=4:=by
 unfold takeE
 rw[if_neg (by omega),if_pos (.inl (allV_len ps 0))]
theorem take_is {ps:List SPart} {n w:Nat} {st:Int} (h:takeE st (allV ps n) (allC ps n) (allM ps n) (ps.length:Int) (w:Int)=0):takeP st (allV ps n) (allC ps n) (allM ps n) (ps.length:Int) (w:Int)=pickP st (allV ps n) (allC ps n) (allM ps n) (ownUpto (ps.length:Int) (w:Int) n):=by
 unfold takeP
 rw[if_pos h,allV_len]
theorem same_iff {ps:List SPart} {n w:Nat} {p:SPart} {st:Int} (hp:ps[w]?=some p) (hr:rightB p=true):sameS (pickP st (allV ps n) (allC ps n) (allM ps n) (ownUpto (ps.length:Int) (w:Int) n)) p=true↔p.step=st∧p.own=ownUpto (ps.length:Int) (w:Int) n:=by
 constructor
 ·intro h
  unfold sameS pickP at h
  simp only[Bool.and_eq_true,decide_eq_true_eq] at h
  exact⟨h.1.1.1.1.symm,(eqL_true.1 h.1.1.1.2).symm⟩
 rintro ⟨h1,h2⟩
 rw[pick_all hp h2 h1 hr]
 exact sameS_self p
theorem ok_iff {ps:List SPart} (h1:1≤ps.length) (h2:ps.length≤64) (h3:1≤nAll ps) (h4:nAll ps≤512) (hr:∀(w:Nat) (p:SPart),ps[w]?=some p→rightB p=true):okJ ps↔∀(w:Nat) (p:SPart),ps[w]?=some p→p.step=stepJ ps∧p.own=ownUpto (ps.length:Int) (w:Int) (nAll ps):=by
 constructor
 ·intro h w p hp
  have:=fit_iff.1 (h.2.2.2 w p hp)
  exact⟨this.2.1,this.2.2.2⟩
 intro h
 exact⟨h1,h2,h3,fun w p hp=>fit_iff.2 ⟨hr w p hp,(h w p hp).1,h4,(h w p hp).2⟩⟩
theorem ok_place {ps:List SPart} (h:okJ ps) {v:Nat} (hv:v<nAll ps):0≤plc (v:Int) (wk ps v).own 0∧ix ps v<(wk ps v).own.length:=by
 have h0:∃p,ps[0]?=some p:=⟨_,List.getElem?_eq_getElem (by have:=h.1;omega)⟩
 obtain⟨p0,hp0⟩:=h0
 have hn:=(fit_iff.1 (h.2.2.2 0 p0 hp0)).2.2.1
 obtain⟨a,b⟩:=ofF_ok (v:Int) (ps.length:Int) (by omega) (by omega) (by have:=h.1;omega) (by have:=h.2.1;omega)
 obtain⟨w,hw⟩:=Int.eq_ofNat_of_zero_le a
 obtain⟨p,hp⟩:∃p,ps[w]?=some p:=⟨_,List.getElem?_eq_getElem (by omega)⟩
 have hk:wk ps v=p:=by
  unfold wk
  rw[hw,Int.toNat_natCast,List.getD_eq_getElem?_getD,hp]
  rfl
 have ho:=(fit_iff.1 (h.2.2.2 w p hp)).2.2.2
 have hm:(v:Int)∈p.own:=by
  rw[ho]
  have:=own_mem (k:=ps.length) (i:=w) (n:=nAll ps) hv
  rw[decide_eq_true hw] at this
  simpa using this
 unfold ix
 rw[hk]
 rcases plc_spec (v:Int) p.own 0 with ⟨_,h2⟩ | ⟨j,g1,g2,g3⟩
 ·exact absurd hm h2
 rw[g2]
 exact⟨by omega,by rw[Int.toNat_natCast];omega⟩
end Go.Proofs.YtpojjmbalgmcoaaGreat

/- Lemmas: Mof, Rgt. -/
import Derived.Test.YtpojjmbalgmcoaaGreatProg
import Derived.Lib.Hide
import Derived.WalkSpells
import Derived.WalkMore
import Derived.IntWalk
import Derived.Test.YtpojjmbalgmcoaaGreatStWw3
set_option linter.unusedVariables false
set_option linter.unusedSimpArgs false
set_option maxRecDepth 100000
set_option maxHeartbeats 16000000
namespace Go.Proofs.YtpojjmbalgmcoaaGreat
open Go.RowKit
def mayB (n:Int):Bool:=decide (1≤n) && decide (n≤64)
theorem mayB_iff {n:Int}:mayB n=true↔1≤n∧n≤64:=by simp[mayB]
def ofF (v n:Int):Int:=if v<0∨512≤v∨n<1∨64<n then -1 else 2654435761*v % 4294967296*n / 4294967296
theorem may_any (w:World) (n:Int):Calls Tryz.prog 99 #[.int .i64 n] w fun e w'=>e = .returned (.bool (mayB n))∧w'=w:=by
 go_enter Tryz.func99,Tryz.ntmps99
 go_wp2
 all_goals
  go_ret
  exact⟨ret_b (by unfold mayB;first | rfl | (rw[Bool.eq_iff_iff];simp only[Bool.and_eq_true,decide_eq_true_eq,Bool.false_eq_true,eq_self_iff_true,true_iff,false_iff];omega)),rfl⟩
theorem of_bounds (v n:Int) (h:¬(v<0∨512≤v∨n<1∨64<n)):0≤2654435761*v % 4294967296*n / 4294967296∧2654435761*v % 4294967296*n / 4294967296<n∧0≤2654435761*v % 4294967296∧2654435761*v % 4294967296<4294967296∧0≤2654435761*v % 4294967296*n∧2654435761*v % 4294967296*n<4294967296*n:=by
 obtain⟨m,hm⟩:∃m,2654435761*v % 4294967296=m:=⟨_,rfl⟩
 have h0:0≤m∧m<4294967296:=by omega
 rw[hm]
 have h1:0≤m*n:=Int.mul_nonneg h0.1 (by omega)
 have h2:m*n<4294967296*n:=Int.mul_lt_mul_of_pos_right h0.2 (by omega)
 obtain⟨p,hp⟩:∃p,m*n=p:=⟨_,rfl⟩
 rw[hp] at h1 h2 ⊢
 omega
theorem ofF_ok (v n:Int) (h0:0≤v) (h1:v<512) (h2:1≤n) (h3:n≤64):0≤ofF v n∧ofF v n<n:=by
 have hc:¬(v<0∨512≤v∨n<1∨64<n):=by omega
 unfold ofF
 rw[if_neg hc]
 exact⟨(of_bounds v n hc).1,(of_bounds v n hc).2.1⟩
theorem rof_any (w:World) (v n:Int):Calls Tryz.prog 54 #[.int .i64 v,.int .i64 n] w fun e w'=>e = .returned (.int .i64 (ofF v n))∧w'=w:=by
 by_cases hc:v<0∨512≤v∨n<1∨64<n
 ·have hF:ofF v n=-1:=by unfold ofF;rw[if_pos hc]
  have HF:=hide hF
  clear hF
  by_cases h1:v<0
  ·clear hc
   go_enter Tryz.func54,Tryz.ntmps54
   go_wp2
   go_ret
   exact⟨ret_n (by rw[HF.out]),rfl⟩
  by_cases h2:512≤v
  ·clear hc
   go_enter Tryz.func54,Tryz.ntmps54
   go_wp2
   go_ret
   exact⟨ret_n (by rw[HF.out]),rfl⟩
  by_cases h3:n<1
  ·clear hc
   go_enter Tryz.func54,Tryz.ntmps54
   go_wp2
   go_ret
   exact⟨ret_n (by rw[HF.out]),rfl⟩
  have h4:64<n:=by omega
  clear hc
  go_enter Tryz.func54,Tryz.ntmps54
  go_wp2
  go_ret
  exact⟨ret_n (by rw[HF.out]),rfl⟩
 have hb:=of_bounds v n hc
 have hF:ofF v n=2654435761*v % 4294967296*n / 4294967296:=by unfold ofF;rw[if_neg hc]
 have HF:=hide hF
 have h1:¬v<0:=by omega
 have h2:¬512≤v:=by omega
 have h3:¬n<1:=by omega
 have h4:¬64<n:=by omega
 have h5:0≤v:=by omega
 have e1:IntKind.i64.wrap (2654435761*v)=2654435761*v:=IntWalk.i64_in _ (by omega)
 have e2:(2654435761*v).tmod 4294967296=2654435761*v % 4294967296:=Int.tmod_eq_emod_of_nonneg (by omega)
 obtain⟨m,hm⟩:∃m,2654435761*v % 4294967296=m:=⟨_,rfl⟩
 rw[hm] at hb HF e2
 have e3:IntKind.i64.wrap m=m:=IntWalk.i64_in _ (by omega)
 obtain⟨p,hp⟩:∃p,m*n=p:=⟨_,rfl⟩
 have e4:IntKind.i64.wrap (m*n)=p:=by rw[hp];exact IntWalk.i64_in _ (by rw[hp] at hb;omega)
 rw[hp] at hb HF
 have HP:=hide hp
 have HM:=hide hm
 have hp0:0≤p:=hb.2.2.2.2.1
 have hp1:p<274877906944:=by omega
 have hm0:0≤m:=hb.2.2.1
 have hm1:m<4294967296:=hb.2.2.2.1
 have e5:p.tdiv 4294967296=p / 4294967296:=Int.tdiv_eq_ediv_of_nonneg hp0
 clear hF hc hp hm hb
 go_enter Tryz.func54,Tryz.ntmps54
 go_wp2
 go_ret
 exact⟨ret_n (by rw[HF.out]),rfl⟩
theorem of_val (v n:Int) (hb:0≤2654435761*v % 4294967296*n / 4294967296∧2654435761*v % 4294967296*n / 4294967296<n∧0≤2654435761*v % 4294967296∧2654435761*v % 4294967296<4294967296∧0≤2654435761*v % 4294967296*n∧2654435761*v % 4294967296*n<4294967296*n) (h7:n≤64) :
  wrap64 (IntKind.u64.wrap (v*2654435761 % 4294967296*n) / 4294967296)=2654435761*v % 4294967296*n / 4294967296:=by
 rw[Int.mul_comm v]
 obtain⟨p,hp⟩:∃p,2654435761*v % 4294967296*n=p:=⟨_,rfl⟩
 rw[hp] at hb ⊢
 rw[IntWalk.u64_in p (by omega)]
 rw[IntWalk.wrap64_in (p / 4294967296) (by omega)]
theorem of_anyA (w:World) (v n:Int):Calls Tryz.prog 81 #[.int .i64 v,.int .i64 n] w fun e w'=>e = .returned (.int .i64 (ofF v n))∧w'=w:=by
 by_cases hc:v<0∨512≤v∨n<1∨64<n
 ·have hF:ofF v n=-1:=by unfold ofF;rw[if_pos hc]
  have HF:=hide hF
  clear hF
  by_cases h1:v<0
  ·clear hc
   go_enter Tryz.func81,Tryz.ntmps81
   go_wp2
   go_ret
   exact⟨ret_n (by rw[HF.out]),rfl⟩
  by_cases h2:512≤v
  ·clear hc
   go_enter Tryz.func81,Tryz.ntmps81
   go_wp2
   go_ret
   exact⟨ret_n (by rw[HF.out]),rfl⟩
  have hm:mayB n=false:=by
   rw[Bool.eq_false_iff];intro h;have:=mayB_iff.1 h;omega
  clear hc
  go_enter Tryz.func81,Tryz.ntmps81
  go_wp2_with fail
  refine (may_any _ n).mono ?_
  rintro e w1 ⟨rfl,rfl⟩
  rw[hm]
  go_wp2
  go_ret
  exact⟨ret_n (by rw[HF.out]),rfl⟩
 have hb:=of_bounds v n hc
 have hF:ofF v n=2654435761*v % 4294967296*n / 4294967296:=by unfold ofF;rw[if_neg hc]
 have HF:=hide hF
 have h1:¬v<0:=by omega
 have h2:¬512≤v:=by omega
 have h5:0≤v:=by omega
 have h6:0≤n:=by omega
 have h7:n≤64:=by omega
 have hm9:mayB n=true:=mayB_iff.2 (by omega)
 clear hF hc
 go_enter Tryz.func81,Tryz.ntmps81
 go_wp2_with fail
 refine (may_any _ n).mono ?_
 rintro e w1 ⟨rfl,rfl⟩
 rw[hm9]
 go_wp2
 go_ret
 exact⟨ret_n (by rw[HF.out];exact of_val v n hb h7),rfl⟩
theorem within_any (w:World) (x:Int):Calls Tryz.prog 55 #[.int .i64 x] w fun e w'=>e = .returned (.bool (inB x))∧w'=w:=by
 go_enter Tryz.func55,Tryz.ntmps55
 go_wp2
 all_goals
  go_ret
  exact⟨ret_b (by unfold inB;first | rfl | (rw[Bool.eq_iff_iff];simp only[Bool.and_eq_true,decide_eq_true_eq,Bool.false_eq_true,eq_self_iff_true,true_iff,false_iff];omega)),rfl⟩
theorem rin_any (w:World) (x:Int):Calls Tryz.prog 67 #[.int .i64 x] w fun e w'=>e = .returned (.bool (inB x))∧w'=w:=by
 go_enter Tryz.func67,Tryz.ntmps67
 go_wp2
 all_goals
  go_ret
  exact⟨ret_b (by unfold inB;first | rfl | (rw[Bool.eq_iff_iff];simp only[Bool.and_eq_true,decide_eq_true_eq,Bool.false_eq_true,eq_self_iff_true,true_iff,false_iff];omega)),rfl⟩
theorem right_any (w:World) (p:SPart) (Ao Av Ac Ai:Option Addr) (n nv nc ni co cv cc ci:Nat) (hlen:SLen p n nv nc ni) (bn:n≤9223372036854775807) (hin:SIn w p Ao Av Ac Ai) :
  Calls Tryz.prog 25 #[.agg #[.int .i64 p.step,.slice Ao n co,.slice Av nv cv,.slice Ac nc cc,.slice Ai ni ci]] w fun e w'=>e = .returned (.bool (rightB p))∧Below w.heap.size w w':=by
 have HRL:=hide (right_lens hlen)
 have HFalse:∀(e:Ending) (w':World),Hid (rightB p=false)→Hid (Below w.heap.size w w')→e = .returned (.bool false)→(e = .returned (.bool (rightB p))∧Below w.heap.size w w'):=fun e w' h1 h2 h3=>⟨by rw[h3,h1.out],h2.out⟩
 have HFF:=hide HFalse
 obtain⟨u,hu⟩:∃u,w.alloc (.cells #[.int .i64 p.step,.slice Ao n co,.slice Av nv cv,.slice Ac nc cc,.slice Ai ni ci] 42)=u:=⟨_,rfl⟩
 have hbu:Hid (Below w.heap.size w u):=hide (by rw[←hu];exact (Below.refl _ _).alloc (Nat.le_refl _) _)
 have hcu:Hid (u.heap[w.heap.size]?=some (.cells #[.int .i64 p.step,.slice Ao n co,.slice Av nv cv,.slice Ac nc cc,.slice Ai ni ci] 42)):=hide (by rw[←hu];exact heap_alloc_last _ _)
 have HB2:Hid (Below w.heap.size w (w.alloc (.cells #[.int .i64 p.step,.slice Ao n co,.slice Av nv cv,.slice Ac nc cc,.slice Ai ni ci] 42))):=hide (by rw[hu];exact hbu.out)
 have HI:=hide (hin.next hbu.out)
 have HU:=hide hu
 have HLen:=hide hlen
 clear HFalse hu hin hlen
 by_cases k1:p.step<0
 ·have HF:Hid (rightB p=false):=hide (by rw[HRL.out];simp;omega)
  go_enter Tryz.func25,Tryz.ntmps25
  go_wp2
  go_ret
  exact HFF.out _ _ HF HB2 rfl
 have k1':0≤p.step:=by omega
 by_cases k2:2000<p.step
 ·have HF:Hid (rightB p=false):=hide (by rw[HRL.out];simp;omega)
  go_enter Tryz.func25,Tryz.ntmps25
  go_wp2
  go_ret
  exact HFF.out _ _ HF HB2 rfl
 have k2':p.step≤2000:=by omega
 by_cases k3:nv=n
 rotate_left
 ·have HF:Hid (rightB p=false):=hide (by rw[HRL.out];simp[k3])
  go_enter Tryz.func25,Tryz.ntmps25
  go_wp2
  go_ret
  exact HFF.out _ _ HF HB2 rfl
 obtain rfl:=k3
 by_cases k4:nc=nv
 rotate_left
 ·have HF:Hid (rightB p=false):=hide (by rw[HRL.out];simp[k4])
  go_enter Tryz.func25,Tryz.ntmps25
  go_wp2
  go_ret
  exact HFF.out _ _ HF HB2 rfl
 obtain rfl:=k4
 by_cases k5:ni=nc
 rotate_left
 ·have HF:Hid (rightB p=false):=hide (by rw[HRL.out];simp[k5])
  go_enter Tryz.func25,Tryz.ntmps25
  go_wp2
  go_ret
  exact HFF.out _ _ HF HB2 rfl
 obtain rfl:=k5
 have HR:Hid (rightB p=rightL (-1) p.own p.vals p.inb):=hide (by rw[HRL.out];simp[k1',k2'])
 obtain⟨e0,e1,e2,e3,e4⟩:=zr5 hcu.out
 clear k1 k2 HRL
 go_enter Tryz.func25,Tryz.ntmps25
 go_wp2
 rw[HU.out]
 go_loop [4,42] (fun v4 v42=>∃(i:Nat) (last:Int),i≤ni∧v42 = .int .i64 i∧v4 = .int .i64 last∧Hid (rightB p=rightL last (p.own.drop i) (p.vals.drop i) (p.inb.drop i))) (fun _ v42=>ni-(intOf v42).toNat)
 case atStart=>exact⟨0,-1,by omega,rfl,rfl,HR⟩
 case round=>
  obtain⟨i,last,hi,rfl,rfl,hr⟩:=hrel
  by_cases hlt:i<ni
  ·obtain⟨v,hv⟩:∃v,p.own[i]?=some v:=⟨_,List.getElem?_eq_getElem (by rw[HLen.out.1];exact hlt)⟩
   obtain⟨x,hx⟩:∃x,p.vals[i]?=some x:=⟨_,List.getElem?_eq_getElem (by rw[HLen.out.2.1];exact hlt)⟩
   obtain⟨⟨h,y⟩,hm⟩:∃m,p.inb[i]?=some m:=⟨_,List.getElem?_eq_getElem (by rw[HLen.out.2.2.2];exact hlt)⟩
   have HST:=hide (rightL_step (last:=last) hv hx hm)
   obtain⟨bo,oo,rfl,lo,dv⟩:=HI.out.own.at1 (i64s_get hv)
   obtain⟨bv,ov,rfl,lv,dx⟩:=HI.out.vals.at1 (i64s_get hx)
   obtain⟨bi,oi,rfl,li,dm,dy⟩:=HI.out.inb.ml hm
   dsimp only at dm dy
   have hI0:(0:Int)≤(i:Int):=by omega
   have hI1:(i:Int)<(ni:Int):=by omega
   have HV:=hide hv
   clear hv hx hm
   by_cases q1:v≤last
   ·have HF:Hid (rightB p=false):=hide (by rw[hr.out,HST.out];rw[decide_eq_false (show ¬last<v by omega)];simp)
    go_wp2
    go_ret
    exact HFF.out _ _ HF hbu rfl
   have q1':last<v:=by omega
   by_cases q2:512≤v
   ·have HF:Hid (rightB p=false):=hide (by rw[hr.out,HST.out];rw[decide_eq_false (show ¬v<512 by omega)];simp)
    go_wp2
    go_ret
    exact HFF.out _ _ HF hbu rfl
   have q2':v<512:=by omega
   rcases qx:inB x with _ | _
   ·have QX:=hide qx
    clear qx
    have HF:Hid (rightB p=false):=hide (by rw[hr.out,HST.out];rw[QX.out];simp)
    go_wp2_with fail
    refine (within_any _ x).mono ?_
    rintro e w1 ⟨rfl,rfl⟩
    rw[QX.out]
    go_wp2
    go_ret
    exact HFF.out _ _ HF hbu rfl
   rcases h with _ | _
   ·have QX:=hide qx
    clear qx
    have HN:Hid (rightB p=rightL v (p.own.drop (i+1)) (p.vals.drop (i+1)) (p.inb.drop (i+1))):=hide (by rw[hr.out,HST.out,decide_eq_true (show last<v by omega),decide_eq_true q2',QX.out];simp)
    go_wp2_with fail
    refine (within_any _ x).mono ?_
    rintro e w1 ⟨rfl,rfl⟩
    rw[QX.out]
    go_wp2
    go_round
    case rel=>exact⟨i+1,v,by omega,by go_num,rfl,HN⟩
    case measure=>simp[intOf];omega
   rcases qy:inB y with _ | _
   ·have QX:=hide qx
    have QY:=hide qy
    clear qx qy
    have HF:Hid (rightB p=false):=hide (by rw[hr.out,HST.out];rw[QY.out];simp)
    go_wp2_with fail
    refine (within_any _ x).mono ?_
    rintro e w1 ⟨rfl,rfl⟩
    rw[QX.out]
    go_wp2_with fail
    refine (within_any _ y).mono ?_
    rintro e w1 ⟨rfl,rfl⟩
    rw[QY.out]
    go_wp2
    go_ret
    exact HFF.out _ _ HF hbu rfl
   have QY:=hide qy
   clear qy
   have QX:=hide qx
   clear qx
   have HN:Hid (rightB p=rightL v (p.own.drop (i+1)) (p.vals.drop (i+1)) (p.inb.drop (i+1))):=hide (by rw[hr.out,HST.out,decide_eq_true (show last<v by omega),decide_eq_true q2',QX.out,QY.out];simp)
   go_wp2_with fail
   refine (within_any _ x).mono ?_
   rintro e w1 ⟨rfl,rfl⟩
   rw[QX.out]
   go_wp2_with fail
   refine (within_any _ y).mono ?_
   rintro e w1 ⟨rfl,rfl⟩
   rw[QY.out]
   go_wp2
   go_round
   case rel=>exact⟨i+1,v,by omega,by go_num,rfl,HN⟩
   case measure=>simp[intOf];omega
  obtain rfl:i=ni:=by omega
  have HT:Hid (rightB p=true):=hide (by rw[hr.out,List.drop_of_length_le (by rw[HLen.out.1];exact Nat.le_refl _),rightL_nil])
  go_wp2
  go_ret
  exact⟨ret_b HT.out.symm,hbu.out⟩
theorem rright_any (w:World) (p:SPart) (Ao Av Ac Ai:Option Addr) (n nv nc ni co cv cc ci:Nat) (hlen:SLen p n nv nc ni) (bn:n≤9223372036854775807) (hin:SIn w p Ao Av Ac Ai) :
  Calls Tryz.prog 37 #[.agg #[.int .i64 p.step,.slice Ao n co,.slice Av nv cv,.slice Ac nc cc,.slice Ai ni ci]] w fun e w'=>e = .returned (.bool (rightB p))∧Below w.heap.size w w':=by
 have HRL:=hide (right_lens hlen)
 have HFalse:∀(e:Ending) (w':World),Hid (rightB p=false)→Hid (Below w.heap.size w w')→e = .returned (.bool false)→(e = .returned (.bool (rightB p))∧Below w.heap.size w w'):=fun e w' h1 h2 h3=>⟨by rw[h3,h1.out],h2.out⟩
 have HFF:=hide HFalse
 obtain⟨u,hu⟩:∃u,w.alloc (.cells #[.int .i64 p.step,.slice Ao n co,.slice Av nv cv,.slice Ac nc cc,.slice Ai ni ci] 64)=u:=⟨_,rfl⟩
 have hbu:Hid (Below w.heap.size w u):=hide (by rw[←hu];exact (Below.refl _ _).alloc (Nat.le_refl _) _)
 have hcu:Hid (u.heap[w.heap.size]?=some (.cells #[.int .i64 p.step,.slice Ao n co,.slice Av nv cv,.slice Ac nc cc,.slice Ai ni ci] 64)):=hide (by rw[←hu];exact heap_alloc_last _ _)
 have HB2:Hid (Below w.heap.size w (w.alloc (.cells #[.int .i64 p.step,.slice Ao n co,.slice Av nv cv,.slice Ac nc cc,.slice Ai ni ci] 64))):=hide (by rw[hu];exact hbu.out)
 have HI:=hide (hin.next hbu.out)
 have HU:=hide hu
 have HLen:=hide hlen
 clear HFalse hu hin hlen
 by_cases k1:p.step<0
 ·have HF:Hid (rightB p=false):=hide (by rw[HRL.out];simp;omega)
  go_enter Tryz.func37,Tryz.ntmps37
  go_wp2
  go_ret
  exact HFF.out _ _ HF HB2 rfl
 have k1':0≤p.step:=by omega
 by_cases k2:2000<p.step
 ·have HF:Hid (rightB p=false):=hide (by rw[HRL.out];simp;omega)
  go_enter Tryz.func37,Tryz.ntmps37
  go_wp2
  go_ret
  exact HFF.out _ _ HF HB2 rfl
 have k2':p.step≤2000:=by omega
 by_cases k3:nv=n
 rotate_left
 ·have HF:Hid (rightB p=false):=hide (by rw[HRL.out];simp[k3])
  go_enter Tryz.func37,Tryz.ntmps37
  go_wp2
  go_ret
  exact HFF.out _ _ HF HB2 rfl
 obtain rfl:=k3
 by_cases k4:nc=nv
 rotate_left
 ·have HF:Hid (rightB p=false):=hide (by rw[HRL.out];simp[k4])
  go_enter Tryz.func37,Tryz.ntmps37
  go_wp2
  go_ret
  exact HFF.out _ _ HF HB2 rfl
 obtain rfl:=k4
 by_cases k5:ni=nc
 rotate_left
 ·have HF:Hid (rightB p=false):=hide (by rw[HRL.out];simp[k5])
  go_enter Tryz.func37,Tryz.ntmps37
  go_wp2
  go_ret
  exact HFF.out _ _ HF HB2 rfl
 obtain rfl:=k5
 have HR:Hid (rightB p=rightL (-1) p.own p.vals p.inb):=hide (by rw[HRL.out];simp[k1',k2'])
 obtain⟨e0,e1,e2,e3,e4⟩:=zr5 hcu.out
 clear k1 k2 HRL
 go_enter Tryz.func37,Tryz.ntmps37
 go_wp2
 rw[HU.out]
 go_loop [4] (fun v4=>∃(i:Nat) (last:Int),i≤ni∧v4 = .int .i64 i∧-1≤last∧Hid (i=0→last=-1)∧Hid (∀j,i=j+1→p.own[j]?=some last)∧Hid (rightB p=rightL last (p.own.drop i) (p.vals.drop i) (p.inb.drop i))) (fun v4=>ni-(intOf v4).toNat)
 case atStart=>exact⟨0,-1,by omega,rfl,by omega,hide (fun _=>rfl),hide (fun j h=>by omega),HR⟩
 case round=>
  obtain⟨i,last,hi,rfl,hl,h0,hs,hr⟩:=hrel
  by_cases hlt:i<ni
  ·obtain⟨v,hv⟩:∃v,p.own[i]?=some v:=⟨_,List.getElem?_eq_getElem (by rw[HLen.out.1];exact hlt)⟩
   obtain⟨x,hx⟩:∃x,p.vals[i]?=some x:=⟨_,List.getElem?_eq_getElem (by rw[HLen.out.2.1];exact hlt)⟩
   obtain⟨⟨h,y⟩,hm⟩:∃m,p.inb[i]?=some m:=⟨_,List.getElem?_eq_getElem (by rw[HLen.out.2.2.2];exact hlt)⟩
   have HST:=hide (rightL_step (last:=last) hv hx hm)
   obtain⟨bo,oo,rfl,lo,dv⟩:=HI.out.own.at1 (i64s_get hv)
   obtain⟨bv,ov,rfl,lv,dx⟩:=HI.out.vals.at1 (i64s_get hx)
   obtain⟨bi,oi,rfl,li,dm,dy⟩:=HI.out.inb.ml hm
   dsimp only at dm dy
   have hI0:(0:Int)≤(i:Int):=by omega
   have hI1:(i:Int)<(ni:Int):=by omega
   have HV:=hide hv
   clear hv hx hm
   rcases Nat.eq_zero_or_pos i with hz | hz
   ·have hlast:=hide (h0.out hz)
    have hz1:¬0<i:=by omega
    clear hz
    by_cases q0:v<0
    ·have HF:Hid (rightB p=false):=hide (by rw[hr.out,HST.out];rw[decide_eq_false (show ¬last<v by omega)];simp)
     go_wp2
     go_ret
     exact HFF.out _ _ HF hbu rfl
    have q0':0≤v:=by omega
    have q1':last<v:=by have:=hlast.out;omega
    by_cases q2:512≤v
    ·have HF:Hid (rightB p=false):=hide (by rw[hr.out,HST.out];rw[decide_eq_false (show ¬v<512 by omega)];simp)
     go_wp2
     go_ret
     exact HFF.out _ _ HF hbu rfl
    have q2':v<512:=by omega
    rcases qx:inB x with _ | _
    ·have QX:=hide qx
     clear qx
     have HF:Hid (rightB p=false):=hide (by rw[hr.out,HST.out];rw[QX.out];simp)
     go_wp2_with fail
     refine (rin_any _ x).mono ?_
     rintro e w1 ⟨rfl,rfl⟩
     rw[QX.out]
     go_wp2
     go_ret
     exact HFF.out _ _ HF hbu rfl
    rcases h with _ | _
    ·have QX:=hide qx
     clear qx
     have HN:Hid (rightB p=rightL v (p.own.drop (i+1)) (p.vals.drop (i+1)) (p.inb.drop (i+1))):=hide (by rw[hr.out,HST.out,decide_eq_true (show last<v by omega),decide_eq_true q2',QX.out];simp)
     go_wp2_with fail
     refine (rin_any _ x).mono ?_
     rintro e w1 ⟨rfl,rfl⟩
     rw[QX.out]
     go_wp2
     go_round
     case rel=>exact⟨i+1,v,by omega,by go_num,by omega,hide (fun h=>by omega),hide (fun j h=>by rw[show j=i by omega];exact HV.out),HN⟩
     case measure=>simp[intOf];omega
    rcases qy:inB y with _ | _
    ·have QX:=hide qx
     have QY:=hide qy
     clear qx qy
     have HF:Hid (rightB p=false):=hide (by rw[hr.out,HST.out];rw[QY.out];simp)
     go_wp2_with fail
     refine (rin_any _ x).mono ?_
     rintro e w1 ⟨rfl,rfl⟩
     rw[QX.out]
     go_wp2_with fail
     refine (rin_any _ y).mono ?_
     rintro e w1 ⟨rfl,rfl⟩
     rw[QY.out]
     go_wp2
     go_ret
     exact HFF.out _ _ HF hbu rfl
    have QY:=hide qy
    clear qy
    have QX:=hide qx
    clear qx
    have HN:Hid (rightB p=rightL v (p.own.drop (i+1)) (p.vals.drop (i+1)) (p.inb.drop (i+1))):=hide (by rw[hr.out,HST.out,decide_eq_true (show last<v by omega),decide_eq_true q2',QX.out,QY.out];simp)
    go_wp2_with fail
    refine (rin_any _ x).mono ?_
    rintro e w1 ⟨rfl,rfl⟩
    rw[QX.out]
    go_wp2_with fail
    refine (rin_any _ y).mono ?_
    rintro e w1 ⟨rfl,rfl⟩
    rw[QY.out]
    go_wp2
    go_round
    case rel=>exact⟨i+1,v,by omega,by go_num,by omega,hide (fun h=>by omega),hide (fun j h=>by rw[show j=i by omega];exact HV.out),HN⟩
    case measure=>simp[intOf];omega
   obtain⟨k,hk⟩:∃k,i=k+1:=⟨i-1,by omega⟩
   have hp:=hs.out k hk
   obtain⟨b9,o9,e9,l9,dp⟩:=HI.out.own.at1 (i64s_get hp)
   injection e9 with e9
   injection e9 with e91 e92
   subst e91 e92
   clear hp
   have hk2:(i:Int)-1=(k:Int):=by omega
   have hkk:IntKind.i64.wrap ((i:Int)-1)=(k:Int):=by rw[hk2];exact IntWalk.i64_in _ (by omega)
   have hk3:(k:Int)<(ni:Int):=by omega
   have hk0:(0:Int)≤(k:Int):=by omega
   clear hk
   by_cases q0:v<0
   ·have HF:Hid (rightB p=false):=hide (by rw[hr.out,HST.out];rw[decide_eq_false (show ¬last<v by omega)];simp)
    go_wp2
    go_ret
    exact HFF.out _ _ HF hbu rfl
   have q0':0≤v:=by omega
   by_cases q5:512≤v
   ·have HF:Hid (rightB p=false):=hide (by rw[hr.out,HST.out];rw[decide_eq_false (show ¬v<512 by omega)];simp)
    go_wp2
    go_ret
    exact HFF.out _ _ HF hbu rfl
   have q5':v<512:=by omega
   by_cases q1:v≤last
   ·have HF:Hid (rightB p=false):=hide (by rw[hr.out,HST.out];rw[decide_eq_false (show ¬last<v by omega)];simp)
    go_wp2
    go_ret
    exact HFF.out _ _ HF hbu rfl
   have q1':last<v:=by omega
   have q2':=q5'
   rcases qx:inB x with _ | _
   ·have QX:=hide qx
    clear qx
    have HF:Hid (rightB p=false):=hide (by rw[hr.out,HST.out];rw[QX.out];simp)
    go_wp2_with fail
    refine (rin_any _ x).mono ?_
    rintro e w1 ⟨rfl,rfl⟩
    rw[QX.out]
    go_wp2
    go_ret
    exact HFF.out _ _ HF hbu rfl
   rcases h with _ | _
   ·have QX:=hide qx
    clear qx
    have HN:Hid (rightB p=rightL v (p.own.drop (i+1)) (p.vals.drop (i+1)) (p.inb.drop (i+1))):=hide (by rw[hr.out,HST.out,decide_eq_true (show last<v by omega),decide_eq_true q2',QX.out];simp)
    go_wp2_with fail
    refine (rin_any _ x).mono ?_
    rintro e w1 ⟨rfl,rfl⟩
    rw[QX.out]
    go_wp2
    go_round
    case rel=>exact⟨i+1,v,by omega,by go_num,by omega,hide (fun h=>by omega),hide (fun j h=>by rw[show j=i by omega];exact HV.out),HN⟩
    case measure=>simp[intOf];omega
   rcases qy:inB y with _ | _
   ·have QX:=hide qx
    have QY:=hide qy
    clear qx qy
    have HF:Hid (rightB p=false):=hide (by rw[hr.out,HST.out];rw[QY.out];simp)
    go_wp2_with fail
    refine (rin_any _ x).mono ?_
    rintro e w1 ⟨rfl,rfl⟩
    rw[QX.out]
    go_wp2_with fail
    refine (rin_any _ y).mono ?_
    rintro e w1 ⟨rfl,rfl⟩
    rw[QY.out]
    go_wp2
    go_ret
    exact HFF.out _ _ HF hbu rfl
   have QY:=hide qy
   clear qy
   have QX:=hide qx
   clear qx
   have HN:Hid (rightB p=rightL v (p.own.drop (i+1)) (p.vals.drop (i+1)) (p.inb.drop (i+1))):=hide (by rw[hr.out,HST.out,decide_eq_true (show last<v by omega),decide_eq_true q2',QX.out,QY.out];simp)
   go_wp2_with fail
   refine (rin_any _ x).mono ?_
   rintro e w1 ⟨rfl,rfl⟩
   rw[QX.out]
   go_wp2_with fail
   refine (rin_any _ y).mono ?_
   rintro e w1 ⟨rfl,rfl⟩
   rw[QY.out]
   go_wp2
   go_round
   case rel=>exact⟨i+1,v,by omega,by go_num,by omega,hide (fun h=>by omega),hide (fun j h=>by rw[show j=i by omega];exact HV.out),HN⟩
   case measure=>simp[intOf];omega
  obtain rfl:i=ni:=by omega
  have HT:Hid (rightB p=true):=hide (by rw[hr.out,List.drop_of_length_le (by rw[HLen.out.1];exact Nat.le_refl _),rightL_nil])
  go_wp2
  go_ret
  exact⟨ret_b HT.out.symm,hbu.out⟩
end Go.Proofs.YtpojjmbalgmcoaaGreat

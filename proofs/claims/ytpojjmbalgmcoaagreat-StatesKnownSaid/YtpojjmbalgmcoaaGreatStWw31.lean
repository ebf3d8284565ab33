/- Lemmas: Acp, Mrg. -/
import Derived.Shelf.Small.Bits
import Derived.Shelf.Small.Wraps
import Derived.Shelf.Bits.Mul64
import Derived.Ground.Names2Prog
import Derived.Ground.SlgnProg
import Derived.Ground.SlgfProg
import Derived.Test.YtpojjmbalgmcoaaGreatProg
import Derived.IntWalk
import Derived.Lib.EndianBits
import Derived.Deep.DeepCutAuto
import Derived.Lib.Hide
import Derived.WalkSpells
import Derived.WalkMore
import Derived.Test.YtpojjmbalgmcoaaGreatStWw3
import Derived.Test.YtpojjmbalgmcoaaGreatStWw30
set_option linter.unusedVariables false
set_option linter.unusedSimpArgs false
set_option maxRecDepth 100000
set_option maxHeartbeats 16000000
namespace Go.Proofs.YtpojjmbalgmcoaaGreat
open Go.Shelf
def sh_lays264_ren:Go.Shelf.Ren:=⟨fun | 264=>145 | n=>n,fun | 53=>78 | 46=>157 | n=>n,fun | n=>n⟩
theorem sh_lays264:Go.Proofs.Lays.n264 Tryz.prog sh_lays264_ren:={
 mixed:=by kernel_rfl
 f264:=Tryz.func145.trans (congrArg some (by kernel_rfl))
 t46:=Tryz.underlying157
 a46:=Tryz.isAgg157
 z46:=Tryz.sizeOf157
 v46:=Tryz.zeroValue157
 t53:=Tryz.underlying78
 a53:=Tryz.isAgg78
 z53:=Tryz.sizeOf78
 v53:=Tryz.zeroValue78 }
open Go.RowKit Go.Lib in
theorem sh_bits_Mul64 (x y:Nat) (hx:x<18446744073709551616) (hy:y<18446744073709551616) (w:World) :
  Calls Tryz.prog 145 #[.int .u64 x,.int .u64 y] w fun e w'=>e = .returned (.tuple #[.int .u64 ((x*y / 18446744073709551616:Nat):Int),.int .u64 ((x*y % 18446744073709551616:Nat):Int)])∧w'=w:=Any.bits_Mul64 sh_lays264 x y hx hy w
end Go.Proofs.YtpojjmbalgmcoaaGreat
namespace Go.Proofs.YtpojjmbalgmcoaaGreat
open Go.RowKit
theorem bits_or64 {a b k:Nat} (hk:k≤64) (ha:a*2 ^ k<2 ^ 64) (hb:b<2 ^ k):bits .or .u64 ((a*2 ^ k:Nat):Int) (b:Int)=((a*2 ^ k+b:Nat):Int):=by
 have e0:a*2 ^ k ||| b=a*2 ^ k+b:=by rw[Nat.mul_comm,Nat.two_pow_add_eq_or_of_lt hb]
 have h2:b<2 ^ 64:=Nat.lt_of_lt_of_le hb (Nat.pow_le_pow_right (by decide) hk)
 generalize a*2 ^ k=m at ha e0 ⊢
 have h3:m ||| b<2 ^ 64:=Nat.or_lt_two_pow ha h2
 have e1:(BitVec.ofInt 64 (m:Int)).toNat=m:=by
  rw[BitVec.ofInt_natCast,BitVec.toNat_ofNat];exact Nat.mod_eq_of_lt ha
 have e2:(BitVec.ofInt 64 (b:Int)).toNat=b:=by
  rw[BitVec.ofInt_natCast,BitVec.toNat_ofNat];exact Nat.mod_eq_of_lt h2
 show IntKind.u64.wrap ((BitVec.ofInt 64 (m:Int) ||| BitVec.ofInt 64 (b:Int)).toNat:Int)=_
 rw[BitVec.toNat_or,e1,e2,IntKind.wrap_u64,e0]
 rw[e0] at h3
 omega
def mulF (a b:Nat):Nat×Nat:=if 4611686018427387904<a*b / 4294967296 then (0,50) else (a*b / 4294967296,0)
theorem mul_x {hi lo P:Nat} (e0:hi*18446744073709551616+lo=P):hi*4294967296+lo / 4294967296=P / 4294967296:=by
 have e1:P=lo+(hi*4294967296)*4294967296:=by rw[←e0,Nat.mul_assoc,Nat.add_comm]
 rw[e1,Nat.add_mul_div_right _ _ (by decide),Nat.add_comm]
theorem mul_parts (a b:Nat) (ha:a≤9223372036854775807) (hb:b≤9223372036854775807):a*b≤85070591730234615847396907784232501249:=Nat.mul_le_mul ha hb
theorem fmul_any (w:World) (a b:Nat) (ha:a≤9223372036854775807) (hb:b≤9223372036854775807):Calls Tryz.prog 144 #[.int .i64 (a:Int),.int .i64 (b:Int)] w fun e w'=>e = .returned (.tuple #[.int .i64 ((mulF a b).1:Int),.int .i64 ((mulF a b).2:Int)])∧w=w':=by
 have hP:=mul_parts a b ha hb
 obtain⟨m,hm⟩:∃m,mulF a b=m:=⟨_,rfl⟩
 have HM:Hid ((if 4611686018427387904<a*b / 4294967296 then (0,50) else (a*b / 4294967296,0))=m):=hide hm
 obtain⟨P,hp⟩:∃P,a*b=P:=⟨_,rfl⟩
 have hmul:=sh_bits_Mul64 a b (by omega) (by omega)
 rw[hp] at hP hmul HM
 rw[hm]
 obtain⟨hi,hhi⟩:∃z,P / 18446744073709551616=z:=⟨_,rfl⟩
 obtain⟨lo,hlo⟩:∃z,P % 18446744073709551616=z:=⟨_,rfl⟩
 rw[hhi,hlo] at hmul
 have e0:hi*18446744073709551616+lo=P:=by omega
 have l1:lo<18446744073709551616:=by omega
 have l2:hi<4611686018427387904:=by omega
 have HC:=hide hmul
 have E0:=hide (And.intro e0 (And.intro l1 (And.intro l2 hP)))
 have x1:IntKind.u64.wrap (a:Int)=(a:Int):=IntWalk.u64_in _ (by omega)
 have x2:IntKind.u64.wrap (b:Int)=(b:Int):=IntWalk.u64_in _ (by omega)
 have n1:¬(a:Int)<0:=by omega
 have n2:¬(b:Int)<0:=by omega
 clear hmul hhi hlo hp hm e0 l1 l2 hP ha hb
 go_enter Tryz.func144,Tryz.ntmps144
 go_wp2_with fail
 refine (HC.out _).mono ?_
 rintro e w1 ⟨rfl,rfl⟩
 obtain⟨e0,l1,l2,hP⟩:=E0.out
 by_cases hh:hi<4294967296
 ·obtain⟨x,hx⟩:∃x,P / 4294967296=x:=⟨_,rfl⟩
  have hM:=HM.out
  rw[hx] at hM
  have hx2:hi*4294967296+lo / 4294967296=x:=(mul_x e0).trans hx
  have e:bits .or .u64 ((hi:Int)*4294967296) ((lo:Int) / 4294967296)=(x:Int):=by
   have e:=bits_or64 (a:=hi) (b:=lo / 4294967296) (k:=32) (by decide) (by omega) (by omega)
   rw[show ((hi*2 ^ 32:Nat):Int)=(hi:Int)*4294967296 by omega,show ((lo / 4294967296:Nat):Int)=(lo:Int) / 4294967296 by omega] at e
   rw[e];omega
  have hz:(hi:Int) / 4294967296=0:=by omega
  have w1:IntKind.u64.wrap ((hi:Int)*4294967296)=(hi:Int)*4294967296:=IntWalk.u64_in _ (by omega)
  by_cases hlt:4611686018427387904<x
  ·have hlt':(4611686018427387904:Int)<(x:Int):=by omega
   rw[if_pos hlt] at hM
   have HM2:=hide hM
   clear e0 l1 l2 hP hx hx2 hM hh hlt
   go_wp2
   exact bodyPost_ret (by simp[results,Tryz.results144,go_sem];try rfl) rfl ⟨by rw[←HM2.out];rfl,rfl⟩
  have hlt':¬(4611686018427387904:Int)<(x:Int):=by omega
  have w2:wrap64 (x:Int)=(x:Int):=IntWalk.wrap64_in _ (by omega)
  rw[if_neg hlt] at hM
  have HM2:=hide hM
  clear e0 l1 l2 hP hx hx2 hM hh hlt
  go_wp2
  exact bodyPost_ret (by simp[results,Tryz.results144,go_sem];try rfl) rfl ⟨by rw[←HM2.out];rfl,rfl⟩
 have hz:0<(hi:Int) / 4294967296:=by omega
 have hM:=HM.out
 rw[if_pos (by omega)] at hM
 have HM2:=hide hM
 clear e0 l1 l2 hP hM hh
 go_wp2
 exact bodyPost_ret (by simp[results,Tryz.results144,go_sem];try rfl) rfl ⟨by rw[←HM2.out];rfl,rfl⟩
def takeK (V d g s:Int):Int:=if V<1∨d<0∨4294967296<d∨g<0∨s<0 then 0 else if (mulF d.toNat (dadd g (s.tdiv V)).toNat).2=0 then (4294967296-d).tdiv V+((mulF d.toNat (dadd g (s.tdiv V)).toNat).1:Int) else 0
theorem dadd_rg (a b:Int):0≤dadd a b∧dadd a b≤4611686018427387904:=by
 have h1:=dist_bounds a
 have h2:=dist_bounds b
 unfold dadd
 split <;> omega
theorem mulF_b (a b:Nat):(mulF a b).1≤4611686018427387904:=by unfold mulF;split <;> simp;omega
theorem rktake_any (w:World) (V d g s:Int) (bv:V≤9223372036854775807) (bg:g≤9223372036854775807) (bs:s≤9223372036854775807):Calls Tryz.prog 140 #[.int .i64 V,.int .i64 d,.int .i64 g,.int .i64 s] w fun e w'=>e = .returned (.int .i64 (takeK V d g s))∧w=w':=by
 by_cases hv:V<1
 ·have HT:Hid (takeK V d g s=0):=hide (by unfold takeK;rw[if_pos (by omega)])
  rw[HT.out]
  go_enter Tryz.func140,Tryz.ntmps140
  go_wp2
  go_ret
  exact⟨rfl,rfl⟩
 by_cases hd:d<0
 ·have HT:Hid (takeK V d g s=0):=hide (by unfold takeK;rw[if_pos (by omega)])
  rw[HT.out]
  go_enter Tryz.func140,Tryz.ntmps140
  go_wp2
  go_ret
  exact⟨rfl,rfl⟩
 by_cases ho:4294967296<d
 ·have HT:Hid (takeK V d g s=0):=hide (by unfold takeK;rw[if_pos (by omega)])
  rw[HT.out]
  go_enter Tryz.func140,Tryz.ntmps140
  go_wp2
  go_ret
  exact⟨rfl,rfl⟩
 by_cases hg:g<0
 ·have HT:Hid (takeK V d g s=0):=hide (by unfold takeK;rw[if_pos (by omega)])
  rw[HT.out]
  go_enter Tryz.func140,Tryz.ntmps140
  go_wp2
  go_ret
  exact⟨rfl,rfl⟩
 by_cases hs:s<0
 ·have HT:Hid (takeK V d g s=0):=hide (by unfold takeK;rw[if_pos (by omega)])
  rw[HT.out]
  go_enter Tryz.func140,Tryz.ntmps140
  go_wp2
  go_ret
  exact⟨rfl,rfl⟩
 obtain⟨D,rfl⟩:=Int.eq_ofNat_of_zero_le (show 0≤d by omega)
 have q1:=tdiv_in (a:=4294967296-(D:Int)) (n:=V) (by omega) (by omega) (by omega)
 have q2:=tdiv_in (a:=s) (n:=V) (by omega) bs (by omega)
 have q3:(4294967296-(D:Int)).tdiv V≤4294967296:=by rw[Int.tdiv_eq_ediv_of_nonneg (by omega)];exact Int.le_trans (Int.ediv_le_self _ (by omega)) (by omega)
 have h1:shareF (4294967296-(D:Int)) V=((4294967296-(D:Int)).tdiv V,0):=by rw[shareF,if_neg (by omega)]
 have h2:shareF s V=(s.tdiv V,0):=by rw[shareF,if_neg (by omega)]
 obtain⟨r,hr⟩:∃z,(4294967296-(D:Int)).tdiv V=z:=⟨_,rfl⟩
 obtain⟨l,hl⟩:∃z,s.tdiv V=z:=⟨_,rfl⟩
 rw[hr] at q1 q3 h1
 rw[hl] at q2 h2
 have q4:=dadd_rg g l
 obtain⟨N,hN⟩:=Int.eq_ofNat_of_zero_le q4.1
 rw[hN] at q4
 obtain⟨⟨m1,m2⟩,hm⟩:∃m,mulF D N=m:=⟨_,rfl⟩
 have q5:m1≤4611686018427387904:=by have:=mulF_b D N;rw[hm] at this;exact this
 have hT:takeK V (D:Int) g s=if m2=0 then r+(m1:Int) else 0:=by
  unfold takeK
  rw[if_neg (by omega),hl,hN]
  simp only[Int.toNat_natCast]
  rw[hm,hr]
 have w1:IntKind.i64.wrap (4294967296-(D:Int))=4294967296-(D:Int):=IntWalk.i64_in _ (by omega)
 have w2:IntKind.i64.wrap r=r:=IntWalk.i64_in _ (by omega)
 have w3:IntKind.i64.wrap l=l:=IntWalk.i64_in _ (by omega)
 have w4:IntKind.i64.wrap (r+(m1:Int))=r+(m1:Int):=IntWalk.i64_in _ (by omega)
 have hV:¬V=0:=by omega
 have bD:D≤9223372036854775807:=by omega
 have bN:N≤9223372036854775807:=by have:=q4.2;omega
 have hN':dadd g l=(N:Int):=hN
 have H1:=hide h1
 have H2:=hide h2
 have HN:=hide hN'
 have HM:=hide hm
 have HT:=hide hT
 have BDN:=hide (And.intro bD bN)
 have BG:=hide (And.intro (show -9223372036854775808≤g by omega) (And.intro bg (And.intro (show -9223372036854775808≤l by omega) q2.2)))
 have HS0:Hid (-9223372036854775808≤4294967296-(D:Int)∧4294967296-(D:Int)≤9223372036854775807):=hide (by omega)
 have HSs:Hid (-9223372036854775808≤s∧s≤9223372036854775807):=hide (by omega)
 clear h1 h2 hN hN' hm hT q1 q2 q3 q4 q5 bD bN
 clear hr hl
 go_enter Tryz.func140,Tryz.ntmps140
 go_wp2_with fail
 have hc:=fun x:World=>share_any x (4294967296-(D:Int)) V HS0.out
 rw[H1.out] at hc
 refine (hc _).mono ?_
 clear hc
 rintro e wz ⟨rfl,rfl⟩
 go_wp2_with fail
 refine (ornone_any _ r 0).mono ?_
 rintro e wz ⟨rfl,rfl⟩
 rw[if_pos rfl]
 go_wp2_with fail
 have hc:=fun x:World=>share_any x s V HSs.out
 rw[H2.out] at hc
 refine (hc _).mono ?_
 clear hc
 rintro e wz ⟨rfl,rfl⟩
 go_wp2_with fail
 refine (ornone_any _ l 0).mono ?_
 rintro e wz ⟨rfl,rfl⟩
 rw[if_pos rfl]
 go_wp2_with fail
 have hc:=fun x:World=>add_any x g l BG.out.1 BG.out.2.1 BG.out.2.2.1 BG.out.2.2.2
 rw[HN.out] at hc
 refine (hc _).mono ?_
 clear hc
 rintro e wz ⟨rfl,rfl⟩
 go_wp2_with fail
 have hc:=fun x:World=>fmul_any x D N BDN.out.1 BDN.out.2
 rw[HM.out] at hc
 refine (hc _).mono ?_
 clear hc
 rintro e wz ⟨rfl,rfl⟩
 rcases Nat.eq_zero_or_pos m2 with h0 | h0
 ·subst h0
  have HF:Hid (takeK V (D:Int) g s=r+(m1:Int)):=hide (by rw[HT.out,if_pos rfl])
  go_wp2
  go_ret
  exact⟨by rw[HF.out];rfl,rfl⟩
 have HF:Hid (takeK V (D:Int) g s=0):=hide (by rw[HT.out,if_neg (by omega)])
 have h0':¬(m2:Int)=0:=by omega
 clear h0
 go_wp2
 go_ret
 exact⟨by rw[HF.out];rfl,rfl⟩
def ltakeOf (v:Int) (has:Bool) (x:Int):Int×Bool:=if has=true∧x<v then (x,true) else (v,false)
theorem ret_pairl {x y:Int} {a b:Bool} (h:x=y) (g:a=b):Ending.returned (.tuple #[.int .i64 x,.bool a]) = .returned (.tuple #[.int .i64 y,.bool b]):=by rw[h,g]
theorem ltake_any (w:World) (v:Int) (has:Bool) (x:Int):Calls Tryz.prog 152 #[.int .i64 v,.agg #[.bool has,.int .i64 x]] w fun e w'=>e = .returned (.tuple #[.int .i64 (ltakeOf v has x).1,.bool (ltakeOf v has x).2])∧Below w.heap.size w w':=by
 obtain⟨u,hu⟩:∃u,w.alloc (.cells #[.bool has,.int .i64 x] 51)=u:=⟨_,rfl⟩
 have hb:Below w.heap.size w u:=by rw[←hu];exact (Below.refl _ _).alloc (Nat.le_refl _) _
 have cu:u.heap[w.heap.size]?=some (.cells #[.bool has,.int .i64 x] 51):=by rw[←hu];exact heap_alloc_last w _
 obtain⟨c0,c1⟩:=zr2 cu
 have hl:w.heap.size<u.heap.size:=lt_of_block cu
 have HB:=hide hb
 have HU:=hide hu
 clear hb cu hu
 cases has
 ·have ht:ltakeOf v false x=(v,false):=by simp[ltakeOf]
  rw[ht]
  go_enter Tryz.func152,Tryz.ntmps152
  go_wp2
  rw[HU.out]
  go_wp2
  all_goals
   refine bodyPost_ret (results_tmp2 rfl _ _ _) rfl ?_
   exact⟨ret_pairl (by omega) rfl,HB.out⟩
 have ht:ltakeOf v true x=(min v x,decide (x<v)):=by
  unfold ltakeOf
  by_cases h:x<v
  ·rw[if_pos ⟨rfl,h⟩,decide_eq_true h,Int.min_eq_right (by omega)]
  rw[if_neg (fun g=>h g.2),decide_eq_false h,Int.min_eq_left (by omega)]
 rw[ht]
 by_cases hlt:v<x
 ·have HM:=hide (show min v x=v by omega)
  have hd:decide (x<v)=false:=decide_eq_false (by omega)
  go_enter Tryz.func152,Tryz.ntmps152
  go_wp2
  rw[HU.out]
  refine wp_region_held_drew (S:=Kept u) (by kernel_rfl) (Kept.drew u) (fun hS0=>?_)
  refine tka 0 10 ?_
  refine tka 1 11 ?_
  refine tka 2 12 ?_
  refine tka 3 13 ?_
  refine tka 4 14 ?_
  refine tka 5 15 ?_
  refine tka 6 16 ?_
  refine tka 7 17 ?_
  refine tka 8 4 ?_
  refine tka 9 5 ?_
  refine wpAnyH_done (by kernel_rfl) ?_ _
  clear hS0
  go_wp2
  all_goals
   refine bodyPost_ret (results_tmp2 rfl _ _ _) rfl ?_
   exact⟨ret_pairl (by omega) (by first | rfl | (simp;done) | (simp;omega)),HB.out.drew⟩
 go_enter Tryz.func152,Tryz.ntmps152
 go_wp2
 rw[HU.out]
 refine wp_region_held_drew (S:=Kept u) (by kernel_rfl) (Kept.drew u) (fun hS0=>?_)
 refine tka 0 10 ?_
 refine tka 1 11 ?_
 refine tka 2 12 ?_
 refine tka 3 13 ?_
 refine tka 4 14 ?_
 refine tka 5 15 ?_
 refine tka 6 16 ?_
 refine tka 7 17 ?_
 refine tka 8 4 ?_
 refine tka 9 5 ?_
 refine wpAnyH_done (by kernel_rfl) ?_ _
 clear hS0
 go_wp2
 all_goals
  refine bodyPost_ret (results_tmp2 rfl _ _ _) rfl ?_
  exact⟨ret_pairl (by omega) (by first | rfl | (simp;done) | (simp;omega)),HB.out.drew⟩
theorem taker_labels (w:World):(Instr.typeAssert (.iface 132 (.agg #[])) 90 176 false).run Tryz.prog w = .ok (.iface 132 (.agg #[])) w:=by kernel_rfl
def gotF (has:Bool) (x:Int):Int:=if has=true then max x 0 else 0
theorem gotF_b (has:Bool) {x:Int} (h:x≤9223372036854775807):gotF has x≤9223372036854775807:=by unfold gotF;split <;> omega
def compK (k V v:Int) (has:Bool) (x su d:Int):Int×Bool:=if k=1 then (takeK V d (gotF has x) su,takeK V d (gotF has x) su != v) else if k=2 then ltakeOf v has x else if k=3 then takeOf v has x else (0,false)
theorem rkshare_any (w:World) (k j1 j2 j3 j4 V:Int) (has:Bool) (x su:Int) (bV:V≤9223372036854775807) (bx:x≤9223372036854775807) (bs:su≤9223372036854775807):Calls Tryz.prog 137 #[.agg #[],.agg #[.int .u8 k,.int .i64 j1,.int .i64 j2,.int .i64 j3,.int .i64 j4],.int .i64 V,.agg #[.bool has,.int .i64 x],.int .i64 su] w fun e w'=>e = .returned (.int .i64 (takeK V j3 (gotF has x) su))∧Below w.heap.size w w':=by
 have bg:=gotF_b has bx
 cases has
 ·obtain⟨u,hu⟩:∃u,(((w.alloc (.cells #[] 129)).alloc (.cells #[.int .u8 k,.int .i64 j1,.int .i64 j2,.int .i64 j3,.int .i64 j4] 27)).alloc (.cells #[.bool false,.int .i64 x] 51))=u:=⟨_,rfl⟩
  have hbu:=hide (show Below w.heap.size w u by rw[←hu];exact (((Below.refl _ _).alloc (Nat.le_refl _) _).alloc (by simp) _).alloc (by simp;omega) _)
  have M1:u.heap[w.heap.size+1]?=some (Obj.cells #[.int .u8 k,.int .i64 j1,.int .i64 j2,.int .i64 j3,.int .i64 j4] 27):=by rw[←hu];exact heap_alloc_keep ((by have h:=heap_alloc_last (w.alloc (.cells #[] 129)) (.cells #[.int .u8 k,.int .i64 j1,.int .i64 j2,.int .i64 j3,.int .i64 j4] 27);simpa using h))
  have M2:u.heap[w.heap.size+1+1]?=some (Obj.cells #[.bool false,.int .i64 x] 51):=by rw[←hu];exact (by have h:=heap_alloc_last ((w.alloc (.cells #[] 129)).alloc (.cells #[.int .u8 k,.int .i64 j1,.int .i64 j2,.int .i64 j3,.int .i64 j4] 27)) (.cells #[.bool false,.int .i64 x] 51);simpa using h)
  have c3:u.cell? ⟨w.heap.size+1,3,none⟩=some (.int .i64 j3):=cell_of_row _ _ 3 _ _ _ M1
  obtain⟨x0,x1⟩:=zr2 M2
  have HU:=hide hu
  clear hu M1 M2
  rw[show gotF false x=0 from rfl] at bg ⊢
  go_enter Tryz.func137,Tryz.ntmps137
  go_upto_region 1 with fail
  rw[HU.out]
  go_wp2_with fail
  refine (rktake_any _ V j3 0 su bV bg bs).mono ?_
  rintro e wz ⟨rfl,rfl⟩
  go_wp2
  go_ret
  exact⟨rfl,hbu.out⟩
 obtain⟨u,hu⟩:∃u,(((w.alloc (.cells #[] 129)).alloc (.cells #[.int .u8 k,.int .i64 j1,.int .i64 j2,.int .i64 j3,.int .i64 j4] 27)).alloc (.cells #[.bool true,.int .i64 x] 51))=u:=⟨_,rfl⟩
 have hbu:=hide (show Below w.heap.size w u by rw[←hu];exact (((Below.refl _ _).alloc (Nat.le_refl _) _).alloc (by simp) _).alloc (by simp;omega) _)
 have M1:u.heap[w.heap.size+1]?=some (Obj.cells #[.int .u8 k,.int .i64 j1,.int .i64 j2,.int .i64 j3,.int .i64 j4] 27):=by rw[←hu];exact heap_alloc_keep ((by have h:=heap_alloc_last (w.alloc (.cells #[] 129)) (.cells #[.int .u8 k,.int .i64 j1,.int .i64 j2,.int .i64 j3,.int .i64 j4] 27);simpa using h))
 have M2:u.heap[w.heap.size+1+1]?=some (Obj.cells #[.bool true,.int .i64 x] 51):=by rw[←hu];exact (by have h:=heap_alloc_last ((w.alloc (.cells #[] 129)).alloc (.cells #[.int .u8 k,.int .i64 j1,.int .i64 j2,.int .i64 j3,.int .i64 j4] 27)) (.cells #[.bool true,.int .i64 x] 51);simpa using h)
 have c3:u.cell? ⟨w.heap.size+1,3,none⟩=some (.int .i64 j3):=cell_of_row _ _ 3 _ _ _ M1
 obtain⟨x0,x1⟩:=zr2 M2
 have HU:=hide hu
 clear hu M1 M2
 rw[show gotF true x=(max x 0) from rfl] at bg ⊢
 go_enter Tryz.func137,Tryz.ntmps137
 go_upto_region 1 with fail
 rw[HU.out]
 go_wp2_with fail
 refine (rktake_any _ V j3 (max x 0) su bV bg bs).mono ?_
 rintro e wz ⟨rfl,rfl⟩
 go_wp2
 go_ret
 exact⟨rfl,hbu.out⟩
theorem lbtake_any (w:World) (v:Int) (has:Bool) (x:Int):Calls Tryz.prog 150 #[.agg #[],.int .i64 v,.agg #[.bool has,.int .i64 x]] w fun e w'=>e = .returned (.tuple #[.int .i64 (ltakeOf v has x).1,.bool (ltakeOf v has x).2])∧Below w.heap.size w w':=by
 have hbu:=hide (show Below w.heap.size w ((w.alloc (.cells #[] 132)).alloc (.cells #[.bool has,.int .i64 x] 51)) from ((Below.refl _ _).alloc (Nat.le_refl _) _).alloc (by simp) _)
 go_enter Tryz.func150,Tryz.ntmps150
 go_wp2_with fail
 refine (ltake_any _ v has x).mono ?_
 rintro e w1 ⟨rfl,hb⟩
 have HB:=hide hb
 clear hb
 go_wp2
 exact bodyPost_ret (by simp[results,Tryz.results150,go_sem];try rfl) rfl ⟨rfl,hbu.out.trans (HB.out.mono (by simp;omega))⟩
theorem acomp1_any (w:World) (j1 j2 j3 j4 V v:Int) (has:Bool) (x su:Int) (bV:V≤9223372036854775807) (bx:x≤9223372036854775807) (bs:su≤9223372036854775807):Calls Tryz.prog 74 #[.agg #[.int .u8 1,.int .i64 j1,.int .i64 j2,.int .i64 j3,.int .i64 j4],.int .i64 V,.int .i64 v,.agg #[.bool has,.int .i64 x],.int .i64 su] w fun e w'=>e = .returned (.tuple #[.int .i64 (takeK V j3 (gotF has x) su),.bool (takeK V j3 (gotF has x) su != v)])∧Below w.heap.size w w':=by
 have ts:=sharer_ranks
 obtain⟨u,hu⟩:∃u,(w.alloc (.cells #[.int .u8 1,.int .i64 j1,.int .i64 j2,.int .i64 j3,.int .i64 j4] 27)).alloc (.cells #[.bool has,.int .i64 x] 51)=u:=⟨_,rfl⟩
 have hzu:w.heap.size+1<u.heap.size:=by rw[←hu];simp
 have hbu:=hide (show Below w.heap.size w u by rw[←hu];exact ((Below.refl _ _).alloc (Nat.le_refl _) _).alloc (by simp) _)
 have M1:=hide (show u.heap[w.heap.size+1]?=some (.cells #[.bool has,.int .i64 x] 51) by rw[←hu];have h:=heap_alloc_last (w.alloc (.cells #[.int .u8 1,.int .i64 j1,.int .i64 j2,.int .i64 j3,.int .i64 j4] 27)) (.cells #[.bool has,.int .i64 x] 51);simpa using h)
 have M0:u.heap[w.heap.size]?=some (.cells #[.int .u8 1,.int .i64 j1,.int .i64 j2,.int .i64 j3,.int .i64 j4] 27):=by rw[←hu];exact heap_alloc_keep (heap_alloc_last _ _)
 have M0h:=hide M0
 obtain⟨c0,c1,c2,c3,c4⟩:=zr5 M0
 clear M0
 have HU:=hide hu
 clear hu
 go_enter Tryz.func74,Tryz.ntmps74
 go_wp2_with fail
 rw[HU.out]
 refine (of1 _ j1 j2 j3 j4).mono ?_
 rintro e ws ⟨rfl,hb⟩
 have HB:=hide hb
 clear c0 c1 c2 c3 c4
 have N1:=(hb.block _ hzu).trans M1.out
 have N0:=(hb.block _ (by omega)).trans M0h.out
 obtain⟨x0,x1⟩:=zr2 N1
 obtain⟨c0,c1,c2,c3,c4⟩:=zr5 N0
 clear N1 N0
 have lw:w.heap.size+1<ws.heap.size:=Nat.lt_of_lt_of_le hzu hb.size
 clear hb
 go_wp2_with fail
 refine (rkshare_any _ 1 j1 j2 j3 j4 V has x su bV bx bs).mono ?_
 rintro e w2 ⟨rfl,hb⟩
 have HB2:=hide hb
 clear hb c0 c1 c2 c3 c4 x0 x1
 go_wp2
 all_goals
  exact bodyPost_ret (by simp[results,Tryz.results74,go_sem];try rfl) rfl ⟨rfl,hbu.out.trans ((HB.out.trans (HB2.out.mono HB.out.size)).mono (by omega))⟩
theorem acomp2_any (w:World) (j1 j2 j3 j4 V v:Int) (has:Bool) (x su:Int):Calls Tryz.prog 74 #[.agg #[.int .u8 2,.int .i64 j1,.int .i64 j2,.int .i64 j3,.int .i64 j4],.int .i64 V,.int .i64 v,.agg #[.bool has,.int .i64 x],.int .i64 su] w fun e w'=>e = .returned (.tuple #[.int .i64 (ltakeOf v has x).1,.bool (ltakeOf v has x).2])∧Below w.heap.size w w':=by
 have ta:=taker_labels
 have ts:=sharer_labels
 obtain⟨u,hu⟩:∃u,(w.alloc (.cells #[.int .u8 2,.int .i64 j1,.int .i64 j2,.int .i64 j3,.int .i64 j4] 27)).alloc (.cells #[.bool has,.int .i64 x] 51)=u:=⟨_,rfl⟩
 have hzu:w.heap.size+1<u.heap.size:=by rw[←hu];simp
 have hbu:=hide (show Below w.heap.size w u by rw[←hu];exact ((Below.refl _ _).alloc (Nat.le_refl _) _).alloc (by simp) _)
 have M1:=hide (show u.heap[w.heap.size+1]?=some (.cells #[.bool has,.int .i64 x] 51) by rw[←hu];have h:=heap_alloc_last (w.alloc (.cells #[.int .u8 2,.int .i64 j1,.int .i64 j2,.int .i64 j3,.int .i64 j4] 27)) (.cells #[.bool has,.int .i64 x] 51);simpa using h)
 have M0:u.heap[w.heap.size]?=some (.cells #[.int .u8 2,.int .i64 j1,.int .i64 j2,.int .i64 j3,.int .i64 j4] 27):=by rw[←hu];exact heap_alloc_keep (heap_alloc_last _ _)
 have M0h:=hide M0
 obtain⟨c0,c1,c2,c3,c4⟩:=zr5 M0
 clear M0
 have HU:=hide hu
 clear hu
 go_enter Tryz.func74,Tryz.ntmps74
 go_wp2_with fail
 rw[HU.out]
 refine (of2 _ j1 j2 j3 j4).mono ?_
 rintro e ws ⟨rfl,hb⟩
 have HB:=hide hb
 clear c0 c1 c2 c3 c4
 have N1:=(hb.block _ hzu).trans M1.out
 have N0:=(hb.block _ (by omega)).trans M0h.out
 obtain⟨x0,x1⟩:=zr2 N1
 obtain⟨c0,c1,c2,c3,c4⟩:=zr5 N0
 clear N1 N0
 have lw:w.heap.size+1<ws.heap.size:=Nat.lt_of_lt_of_le hzu hb.size
 clear hb
 go_upto_region 8 with fail
 refine wp_region_held_drew (S:=Kept ws) (by kernel_rfl) (Kept.drew ws) (fun hS0=>?_)
 refine tka 0 36 ?_
 refine tk 1 37 ?_ ?_ ?_;rotate_left;(focus (intro w hSw;have hh:=ta w;go_simp;(try with_reducible rfl);done));(try simp only[zqd,zqe,zqf])
 refine tka 2 38 ?_
 refine tka 3 39 ?_
 refine ck 4 40 fun K hK=>?_
 go_simp
 go_upon
 refine (lbtake_any _ v has x).mono ?_
 rintro e z1 ⟨rfl,k1⟩
 have hS1:Kept ws z1:=hS0.below (by simp) k1
 have K1:=hide (below_dr k1)
 clear k1
 go_wp2_with fail
 refine hK.out _ _ hS1 (fun hSn=>?_)
 clear hK K
 try simp only[zqd,zqe,zqf]
 refine tka 5 41 ?_
 refine tka 6 42 ?_
 refine tka 7 10 ?_
 refine tka 8 11 ?_
 refine wpAnyH_done (by kernel_rfl) ?_ _
 go_wp2
 exact bodyPost_ret (by simp[results,Tryz.results74,go_sem];try rfl) rfl ⟨rfl,hbu.out.trans ((HB.out.trans (K1.out.mono HB.out.size)).mono (by omega))⟩
theorem acomp0_any (w:World) (k:Int) (k1:¬k=1) (k2:¬k=2) (k3:¬k=3) (j1 j2 j3 j4 V v:Int) (has:Bool) (x su:Int):Calls Tryz.prog 74 #[.agg #[.int .u8 k,.int .i64 j1,.int .i64 j2,.int .i64 j3,.int .i64 j4],.int .i64 V,.int .i64 v,.agg #[.bool has,.int .i64 x],.int .i64 su] w fun e w'=>e = .returned (.tuple #[.int .i64 0,.bool false])∧Below w.heap.size w w':=by
 have ts:=sharer_nil
 obtain⟨u,hu⟩:∃u,(w.alloc (.cells #[.int .u8 k,.int .i64 j1,.int .i64 j2,.int .i64 j3,.int .i64 j4] 27)).alloc (.cells #[.bool has,.int .i64 x] 51)=u:=⟨_,rfl⟩
 have hzu:w.heap.size+1<u.heap.size:=by rw[←hu];simp
 have hbu:=hide (show Below w.heap.size w u by rw[←hu];exact ((Below.refl _ _).alloc (Nat.le_refl _) _).alloc (by simp) _)
 have M1:=hide (show u.heap[w.heap.size+1]?=some (.cells #[.bool has,.int .i64 x] 51) by rw[←hu];have h:=heap_alloc_last (w.alloc (.cells #[.int .u8 k,.int .i64 j1,.int .i64 j2,.int .i64 j3,.int .i64 j4] 27)) (.cells #[.bool has,.int .i64 x] 51);simpa using h)
 have M0:u.heap[w.heap.size]?=some (.cells #[.int .u8 k,.int .i64 j1,.int .i64 j2,.int .i64 j3,.int .i64 j4] 27):=by rw[←hu];exact heap_alloc_keep (heap_alloc_last _ _)
 have M0h:=hide M0
 obtain⟨c0,c1,c2,c3,c4⟩:=zr5 M0
 clear M0
 have HU:=hide hu
 clear hu
 go_enter Tryz.func74,Tryz.ntmps74
 go_wp2_with fail
 rw[HU.out]
 refine (of0 _ k k1 k2 k3 j1 j2 j3 j4).mono ?_
 rintro e ws ⟨rfl,hb⟩
 have HB:=hide hb
 clear c0 c1 c2 c3 c4
 have N1:=(hb.block _ hzu).trans M1.out
 have N0:=(hb.block _ (by omega)).trans M0h.out
 obtain⟨x0,x1⟩:=zr2 N1
 obtain⟨c0,c1,c2,c3,c4⟩:=zr5 N0
 clear N1 N0
 have lw:w.heap.size+1<ws.heap.size:=Nat.lt_of_lt_of_le hzu hb.size
 clear hb
 go_wp2
 exact bodyPost_ret (by simp[results,Tryz.results74,go_sem];try rfl) rfl ⟨rfl,hbu.out.trans (HB.out.mono (by omega))⟩
theorem acomp_any (w:World) (k:Int) (j1 j2 j3 j4 V v:Int) (has:Bool) (x su:Int) (bV:V≤9223372036854775807) (bx:x≤9223372036854775807) (bs:su≤9223372036854775807):Calls Tryz.prog 74 #[.agg #[.int .u8 k,.int .i64 j1,.int .i64 j2,.int .i64 j3,.int .i64 j4],.int .i64 V,.int .i64 v,.agg #[.bool has,.int .i64 x],.int .i64 su] w fun e w'=>e = .returned (.tuple #[.int .i64 (compK k V v has x su j3).1,.bool (compK k V v has x su j3).2])∧Below w.heap.size w w':=by
 by_cases k1:k=1
 ·subst k1
  exact acomp1_any w j1 j2 j3 j4 V v has x su bV bx bs
 by_cases k2:k=2
 ·subst k2
  exact acomp2_any w j1 j2 j3 j4 V v has x su
 by_cases k3:k=3
 ·subst k3
  exact acomp3_any w j1 j2 j3 j4 V v has x su
 have h:=acomp0_any w k k1 k2 k3 j1 j2 j3 j4 V v has x su
 rw[show compK k V v has x su j3=(0,false) by simp[compK,k1,k2,k3]]
 exact h
def MRs (w:World) (B:Nat) (A:Option Addr) (rs:List (List Ms)):Prop:=Els w B 1 A rs (fun cs r=>∃A' c',cs=[.slice A' r.length c']∧Mss w B A' r)
theorem MRs.get {w:World} {B:Nat} {A:Option Addr} {rs:List (List Ms)} (h:MRs w B A rs) {i:Nat} {r:List Ms} (hr:rs[i]?=some r):∃b off,A=some ⟨b,off,none⟩∧b<B∧∃A' c',w.cell? ⟨b,off+i,none⟩=some (.slice A' r.length c')∧Mss w B A' r:=by
 obtain⟨b,off,rfl,hb⟩:=Els.at_ h (List.getElem?_eq_some_iff.1 hr).1
 obtain⟨cs,hl,⟨A',c',rfl,hm⟩,hc⟩:=Els.get h hr
 exact⟨b,off,rfl,hb,A',c',by simpa using hc 0 _ rfl,hm⟩
def i64V (x:Int):Prop:=-9223372036854775808≤x∧x≤9223372036854775807
def msB (l:List Ms):Prop:=∀m∈l,i64V m.1∧i64V m.2
theorem comb_bd {k a b:Int} (ha:i64V a) (hb:i64V b):i64V (combF k a b):=by
 unfold combF i64V
 unfold i64V at ha hb
 have:=dadd_rg a b
 split
 ·omega
 split <;> omega
theorem box_bd {k:Int} {l:List Ms} (h:msB l):∀t x,boxF k l t=some x→i64V x:=by
 suffices hs:∀(l:List Ms) (f:Int→Option Int),msB l→(∀t x,f t=some x→i64V x)→∀t x,l.foldl (addB k) f t=some x→i64V x from hs l _ h (fun t x e=>by cases e)
 intro l
 induction l with
 | nil=>intro f _ hf;exact hf
 | cons m l ih=>
  intro f hl hf
  refine ih _ (fun m' hm'=>hl m' (List.mem_cons_of_mem _ hm')) fun t x hx=>?_
  unfold addB bxPut at hx
  split at hx
  ·have hm:=(hl m (List.mem_cons_self ..)).2
   cases he:f m.1 with
   | some y=>rw[he] at hx;obtain rfl:=Option.some.inj hx;exact comb_bd (hf _ _ he) hm
   | none=>rw[he] at hx;obtain rfl:=Option.some.inj hx;exact hm
  exact hf t x hx
def mails (k:Int) (l:List Ms) (own:List Int):List Ml:=own.map fun v=>mlOf (boxF k l v)
def mlFill (l:List Ml) (i:Nat):List Ml:=l.take i ++ List.replicate (l.length-i) (false,0)
theorem mlFill_len (l:List Ml) {i:Nat} (h:i≤l.length):(mlFill l i).length=l.length:=by simp[mlFill];omega
theorem mlFill_set (l:List Ml) {i:Nat} (h:i<l.length):(mlFill l i).set i (l[i])=mlFill l (i+1):=by
 unfold mlFill
 have hl:(l.take i).length=i:=by rw[List.length_take];omega
 rw[List.set_append,if_neg (by omega),hl,Nat.sub_self,show l.length-i=(l.length-(i+1))+1 by omega,List.replicate_succ,List.set_cons_zero,List.take_succ_eq_append_getElem h,List.append_assoc]
 rfl
theorem mlFill_full (l:List Ml):mlFill l l.length=l:=by simp[mlFill]
theorem mlFill_zero (l:List Ml):mlFill l 0=List.replicate l.length (false,0):=by simp[mlFill]
def MgPost (w:World) (l:List Ml) (e:Ending) (w':World):Prop:=∃A c,e = .returned (.slice A l.length c)∧Rd w' w'.heap.size A (mlFlat l)∧Below w.heap.size w w'∧NewA w.heap.size A
theorem box_at {D:DataW Unit} {f:Int→Option Int} (h:BoxIs D f) (v:Int):D.atKey (lk v) (mailD false 0)=mailD (mlOf (f v)).1 (mlOf (f v)).2:=by
 rw[h.at_ v]
 cases f v <;> rfl
theorem flat_next {rs:List (List Ms)} {i:Nat} {r:List Ms} (h:rs[i]?=some r):(rs.take (i+1)).flatten=(rs.take i).flatten ++ r:=by
 rw[List.take_add_one,h,List.flatten_append]
 simp
theorem flat_take {rs:List (List Ms)} {i:Nat} {r:List Ms} (h:rs[i]?=some r):((rs.take i).flatten).length+r.length≤rs.flatten.length:=by
 rw[←List.length_append,←flat_next h]
 have e:rs.flatten=(rs.take (i+1)).flatten ++ (rs.drop (i+1)).flatten:=by rw[←List.flatten_append,List.take_append_drop]
 rw[e,List.length_append]
 omega
theorem merge_any (w:World) (k j1 j2 j3 j4:Int) (A Ar:Option Addr) (own:List Int) (rs:List (List Ms)) (V R c cr:Nat) (hV:own.length=V) (hV5:V≤1000) (hO:Rd w w.heap.size A (i64s own)) (hOB:∀v∈own,i64V v) (hL:rs.length=R) (hR5:R≤1000) (hR:MRs w w.heap.size Ar rs) (hB:msB rs.flatten) (hN:rs.flatten.length≤100000) :
  Calls Tryz.prog 97 #[.agg #[.int .u8 k,.int .i64 j1,.int .i64 j2,.int .i64 j3,.int .i64 j4],.slice A V c,.slice Ar R cr] w (MgPost w (mails k rs.flatten own)):=by
 have HN:=hide hN
 clear hN
 have K:Maps.Keyed Tryz.prog 3:=Maps.int_keyed Tryz.underlying3
 have hmm:=@run_makeMap Tryz.prog
 obtain⟨a3,a3i,a3z,a3s,a3b⟩:=info_parts (show (Tryz.prog.info? 51).map (fun i=>(i.zero,i.size,i.bytes))=some (some (.agg #[.bool false,.int .i64 0]),2,16) by kernel_rfl)
 obtain⟨u,hu⟩:∃u,(w.alloc (.cells #[.int .u8 k,.int .i64 j1,.int .i64 j2,.int .i64 j3,.int .i64 j4] 27)).alloc (.map #[] 0)=u:=⟨_,rfl⟩
 have hzu:u.heap.size=w.heap.size+2:=by rw[←hu];simp
 have HBu:=hide (show Below w.heap.size w u by rw[←hu];exact ((Below.refl _ _).alloc (Nat.le_refl _) _).alloc (by simp) _)
 have G0:=hide (show u.heap[w.heap.size]?=some (.cells #[.int .u8 k,.int .i64 j1,.int .i64 j2,.int .i64 j3,.int .i64 j4] 27) by rw[←hu];exact (Below.heap_alloc _ _ _ (by simp)).trans (heap_alloc_last w _))
 obtain⟨b,hb⟩:∃b,w.heap.size+1=b:=⟨_,rfl⟩
 have HM0:=hide (show u.ownsMap Tryz.prog 3 mailElem b 0 (.map []) by rw[←hu,←hb];have h:=World.ownsMap_made (w.alloc (.cells #[.int .u8 k,.int .i64 j1,.int .i64 j2,.int .i64 j3,.int .i64 j4] 27)) Tryz.prog 3 mailElem;rw[World.size_alloc] at h;exact h)
 have HU:=hide hu
 have HL:=hide hL
 have HRw:=hide hR
 have HMB:=hide hB
 have HV:=hide hV
 have HO:=hide hO
 have HOB:=hide hOB
 have hbw:w.heap.size<b:=by omega
 have hbu:b<u.heap.size:=by omega
 have hlu:w.heap.size<u.heap.size:=by omega
 have HBe:=hide hb
 clear hu hzu hL hR hB hV hO hOB hb
 go_enter Tryz.func97,Tryz.ntmps97
 go_wp2
 rw[HU.out,HBe.out]
 go_loopw [18] (fun v18 wr=>∃i:Nat,i≤R∧v18 = .int .i64 (i:Int)∧Hid (∃D,BoxIs D (boxF k ((rs.take i).flatten))∧wr.ownsMap Tryz.prog 3 mailElem b ((rs.take i).flatten).length D)∧Hid (KB [b] u wr)∧Hid (Below w.heap.size w wr)) (fun v18 _=>R-(intOf v18).toNat)
 case atStart=>exact⟨0,by omega,rfl,hide ⟨_,BoxIs.empty,HM0.out⟩,hide (KB.refl _ _),HBu⟩
 case round=>
  obtain⟨i,hi,rfl,HX,HK,HBr⟩:=hrel
  obtain⟨wr,rfl⟩:∃z:World,z=wr:=⟨_,rfl⟩
  have srw:w.heap.size≤wr.heap.size:=HBr.out.size
  by_cases hlt:i<R
  ·have hI1:(i:Int)<(R:Int):=by omega
   have hI0:(0:Int)≤(i:Int):=by omega
   obtain⟨r,hr⟩:∃r,rs[i]?=some r:=⟨_,List.getElem?_eq_getElem (by rw[HL.out];exact hlt)⟩
   obtain⟨g,off,rfl,hg,A1,c1,d0,hm⟩:=HRw.out.get hr
   have e0:wr.cell? ⟨g,off+i,none⟩=some (.slice A1 r.length c1):=(HBr.out.cell (p:=⟨g,off+i,none⟩) hg).trans d0
   have HMs:=hide hm
   have HR:=hide hr
   have hgw:g<wr.heap.size:=by omega
   obtain⟨q,hq⟩:∃q,r.length=q:=⟨_,rfl⟩
   rw[hq] at e0
   have HQ:=hide hq
   have HMr:Hid (msB r):=hide (fun m hm'=>HMB.out m (List.mem_flatten.2 ⟨r,List.mem_of_getElem? hr,hm'⟩))
   have HLl:Hid (((rs.take i).flatten).length+q≤100000):=hide (by have h:=flat_take hr;rw[hq] at h;have:=HN.out;omega)
   have HL0:Hid (msB (rs.take i).flatten):=hide (fun m hm'=>by obtain⟨r',hr',hm2⟩:=List.mem_flatten.1 hm';exact HMB.out m (List.mem_flatten.2 ⟨r',List.mem_of_mem_take hr',hm2⟩))
   have hq5:q≤100000:=by have:=HLl.out;omega
   clear d0 hm hr hq
   obtain⟨l0,hl0⟩:∃l,(rs.take i).flatten=l:=⟨_,rfl⟩
   rw[hl0] at HX HLl HL0
   have HLe:=hide hl0
   clear hl0
   go_wp2
   clear e0
   go_loopw [24] (fun v24 x=>∃j:Nat,j≤q∧v24 = .int .i64 (j:Int)∧Hid (∃D,BoxIs D (boxF k (l0 ++ r.take j))∧x.ownsMap Tryz.prog 3 mailElem b (l0.length+j) D)∧Hid (KB [b] u x)∧Hid (Below w.heap.size w x)) (fun v24 _=>q-(intOf v24).toNat)
   case atStart=>exact⟨0,by omega,rfl,by rw[List.take_zero,List.append_nil];exact HX,HK,HBr⟩
   case round=>
    clear HX HK HBr
    obtain⟨j,hj,rfl,HX,HK,HBr⟩:=hrel
    obtain⟨x,rfl⟩:∃z:World,z=wr:=⟨_,rfl⟩
    have szx:w.heap.size≤x.heap.size:=HBr.out.size
    by_cases hltj:j<q
    ·have hJ1:(j:Int)<(q:Int):=by omega
     have hJ0:(0:Int)≤(j:Int):=by omega
     obtain⟨m,hm⟩:∃m,r[j]?=some m:=⟨_,List.getElem?_eq_getElem (by rw[HQ.out];exact hltj)⟩
     obtain⟨g2,o2,rfl,hg2,d0,d1⟩:=HMs.out.get hm
     have e0:x.cell? ⟨g2,o2+j*2,none⟩=some (.int .i64 m.1):=(HBr.out.cell (p:=⟨g2,o2+j*2,none⟩) hg2).trans d0
     have e1:x.cell? ⟨g2,o2+j*2+1,none⟩=some (.int .i64 m.2):=(HBr.out.cell (p:=⟨g2,o2+j*2+1,none⟩) hg2).trans d1
     have hgx:g2<x.heap.size:=by omega
     have hmb:=HMr.out m (List.mem_of_getElem? hm)
     have HSn:=hide (show r.take (j+1)=r.take j ++ [m] by rw[List.take_add_one,hm];rfl)
     clear hm d0 d1
     obtain⟨s,hs⟩:∃s,x.alloc (.cells #[.int .i64 m.1,.int .i64 m.2] 185)=s:=⟨_,rfl⟩
     have hT:s.heap[x.heap.size]?=some (.cells #[.int .i64 m.1,.int .i64 m.2] 185):=by rw[←hs];exact heap_alloc_last _ _
     have HBs:=hide (show Below x.heap.size x s by rw[←hs];exact (Below.refl _ _).alloc (Nat.le_refl _) _)
     have HS:=hide hs
     have hsz:x.heap.size<s.heap.size:=by rw[←hs];simp
     clear hs
     go_upto_region 8 with fail
     rw[HS.out]
     clear e0 e1
     obtain⟨T,hTe⟩:∃T,x.heap.size=T:=⟨_,rfl⟩
     rw[hTe] at hT hsz ⊢
     have HTe:=hide hTe
     clear hTe HS
     obtain⟨t0,t1⟩:=zr2 hT
     clear hT
     have HKs:=hide (HK.out.below HBs.out HK.out.1)
     have HBw:=hide (HBr.out.trans (HBs.out.mono szx))
     have szs:=HBw.out.size
     have G0s:=(HKs.out.2 w.heap.size hlu (by simp;omega)).trans G0.out
     obtain⟨c0,c1,c2,c3,c4⟩:=zr5 G0s
     have hws:w.heap.size<s.heap.size:=by have:=HKs.out.1;omega
     clear G0s
     have HP:=hide (show Calls Tryz.prog 110 #[.map (some b),.agg #[.int .u8 k,.int .i64 j1,.int .i64 j2,.int .i64 j3,.int .i64 j4],.agg #[.int .i64 m.1,.int .i64 m.2]] s (BPost b (l0.length+j) (addB k (boxF k (l0 ++ r.take j)) m) s) by
       obtain⟨D,hD,hM⟩:=HX.out
       refine bput_any s b _ D _ hD (map_below HBs.out hM hM.lt) (by have:=HLl.out;omega) k j1 j2 j3 j4 m.1 m.2 hmb.1 hmb.2 (fun y hy=>box_bd (k:=k) (l:=l0 ++ r.take j) (fun m' hm'=>?_) m.1 y hy)
       rcases List.mem_append.1 hm' with h | h
       ·exact HL0.out m' h
       ·exact HMr.out m' (List.mem_of_mem_take h))
     go_wp2_with fail
     refine HP.out.mono ?_
     rintro e z ⟨rfl,D,hD,hM,hg9⟩
     have HX2:Hid (∃D,BoxIs D (boxF k (l0 ++ r.take (j+1)))∧z.ownsMap Tryz.prog 3 mailElem b (l0.length+(j+1)) D):=hide ⟨D,by rw[HSn.out,←List.append_assoc,boxF_snoc];exact hD,hM⟩
     have HK2:Hid (KB [b] u z):=hide (HKs.out.grown hg9 (fun g e=>by injection e with e;subst e;exact .inr (by simp)))
     have HB2:Hid (Below w.heap.size w z):=hide (HBw.out.grown hg9 szs (fun g e=>by injection e with e;omega))
     clear hD hM hg9 HP t0 t1 c0 c1 c2 c3 c4
     go_wp2
     go_roundw
     case rel=>exact⟨j+1,by omega,by go_num,HX2,HK2,HB2⟩
     case measure=>simp[intOf];omega
    obtain rfl:j=q:=by omega
    have HX2:Hid (∃D,BoxIs D (boxF k (rs.take (i+1)).flatten)∧x.ownsMap Tryz.prog 3 mailElem b ((rs.take (i+1)).flatten).length D):=hide (by
      have h:=HX.out
      rw[List.take_of_length_le (by rw[HQ.out];exact Nat.le_refl _)] at h
      rw[flat_next HR.out,HLe.out,List.length_append,HQ.out]
      exact h)
    clear HX
    go_wp2
    go_roundw
    case rel=>exact⟨i+1,by omega,by go_num,HX2,HK,HBr⟩
    case measure=>simp[intOf];omega
  obtain rfl:i=R:=by omega
  have hfl:(rs.take i).flatten=rs.flatten:=by rw[List.take_of_length_le (by rw[HL.out];exact Nat.le_refl _)]
  rw[hfl] at HX
  clear hfl
  obtain⟨l,hl⟩:∃l,rs.flatten=l:=⟨_,rfl⟩
  rw[hl] at HX
  have HLf:=hide hl
  clear hl
  obtain⟨ms,hms⟩:∃ms,mails k l own=ms:=⟨_,rfl⟩
  have HMl:Hid (ms.length=V):=hide (by rw[←hms];unfold mails;rw[List.length_map];exact HV.out)
  have HMe:=hide hms
  clear hms
  obtain⟨v,hv⟩:∃v,wr.alloc (.cells (madeCells #[.bool false,.int .i64 0] (V*2)) 51)=v:=⟨_,rfl⟩
  have hmk:(Instr.makeSlice 31 (.int .i64 (V:Int)) (.int .i64 (V:Int))).run Tryz.prog wr = .ok (.slice (some ⟨wr.heap.size,0,none⟩) V V) v:=by
    have hr:=run_make (P:=Tryz.prog) wr 31 51 a3 _ Tryz.underlying31 a3i a3z .i64 .i64 V V (by omega) (Int.le_refl _) (by rw[a3b];omega) (by omega)
    simp only[Int.toNat_natCast,a3s] at hr
    rw[←hv]
    exact hr
  have HG0:=hide (show v.heap[wr.heap.size]?=some (.cells (mlFlat (mlFill ms 0)).toArray 51) by rw[←hv,mlFill_zero,HMl.out,←made_m];exact heap_alloc_last _ _)
  have HBv:=hide (show Below wr.heap.size wr v by rw[←hv];exact (Below.refl _ _).alloc (Nat.le_refl _) _)
  have hvz:wr.heap.size<v.heap.size:=by rw[←hv];simp
  clear hv
  go_upto_region 12 with fail
  obtain⟨G,hGe⟩:∃G,wr.heap.size=G:=⟨_,rfl⟩
  rw[hGe] at HG0 hvz ⊢
  have HGe:=hide hGe
  have hwG:w.heap.size<G:=by have:=HK.out.1;omega
  have hbG:b<G:=by have:=HK.out.1;omega
  clear hGe hmk
  have HX2:Hid (∃D,BoxIs D (boxF k l)∧v.ownsMap Tryz.prog 3 mailElem b l.length D):=hide (by obtain⟨D,h1,h2⟩:=HX.out;exact⟨D,h1,map_below HBv.out h2 h2.lt⟩)
  have HBv2:=hide (HBr.out.trans (HBv.out.mono srw))
  clear HX HK HBr HBv
  go_wp2
  go_loopw [39] (fun v39 x=>∃i:Nat,i≤V∧v39 = .int .i64 (i:Int)∧Hid (x.heap[G]?=some (.cells (mlFlat (mlFill ms i)).toArray 51))∧Hid (∃D,BoxIs D (boxF k l)∧x.ownsMap Tryz.prog 3 mailElem b l.length D)∧Hid (Below w.heap.size w x)) (fun v39 _=>V-(intOf v39).toNat)
  case atStart=>exact⟨0,by omega,rfl,HG0,HX2,HBv2⟩
  case round=>
   clear HG0 HX2 HBv2
   obtain⟨i9,hi9,rfl,HG,HX,HBr⟩:=hrel
   obtain⟨x,rfl⟩:∃z:World,z=wr:=⟨_,rfl⟩
   have szx:w.heap.size≤x.heap.size:=HBr.out.size
   by_cases hltv:i9<V
   ·have hI1:(i9:Int)<(V:Int):=by omega
    have hI0:(0:Int)≤(i9:Int):=by omega
    obtain⟨vx,hvx⟩:∃m,own[i9]?=some m:=⟨_,List.getElem?_eq_getElem (by rw[HV.out];exact hltv)⟩
    have hvb:=HOB.out vx (List.mem_of_getElem? hvx)
    obtain⟨g3,o3,rfl,hg3,d0⟩:=HO.out.at1 (i64s_get hvx)
    have e0:x.cell? ⟨g3,o3+i9,none⟩=some (.int .i64 vx):=(HBr.out.cell (p:=⟨g3,o3+i9,none⟩) hg3).trans d0
    have hgx:g3<x.heap.size:=by omega
    obtain⟨D,hD,hM⟩:=HX.out
    obtain⟨mv,hmv⟩:∃m,mlOf (boxF k l vx)=m:=⟨_,rfl⟩
    have hms9:i9<ms.length:=by rw[HMl.out];exact hltv
    have HMv:=hide (show ms[i9]=mv by have h:(mails k l own)[i9]?=some mv:=(by unfold mails;rw[List.getElem?_map,hvx,←hmv];rfl);rw[HMe.out,List.getElem?_eq_getElem hms9] at h;exact Option.some.inj h)
    have hlook:(Instr.lookup 191 (.map (some b)) (.int .i64 vx) false).run Tryz.prog x = .ok (.agg #[.bool mv.1,.int .i64 mv.2]) x:=by
      obtain⟨v9,ps9,hrun,hv9⟩:=hM.lookup K Tryz.underlying191 (z:=.agg #[.bool false,.int .i64 0]) (by kernel_rfl) (mailElem_mk _ _) (Maps.keyOf_int_mk Tryz.underlying3 (lk_wf hvb.1 hvb.2))
      rw[show (Lit.int .i64 vx)=lk vx from rfl,box_at hD,hmv] at hv9
      obtain rfl:=mailElem_inv hv9
      exact hrun
    have hmb:b≠G:=by omega
    have HXM:=hide (show ∃D,BoxIs D (boxF k l)∧((x.setCell ⟨G,i9*2,none⟩ (.bool mv.1)).setCell ⟨G,i9*2+1,none⟩ (.int .i64 mv.2)).ownsMap Tryz.prog 3 mailElem b l.length D from ⟨D,hD,(hM.setCell (by exact hmb) _).setCell (by exact hmb) _⟩)
    have HGn:=hide (show ((x.setCell ⟨G,i9*2,none⟩ (.bool mv.1)).setCell ⟨G,i9*2+1,none⟩ (.int .i64 mv.2)).heap[G]?=some (.cells (mlFlat (mlFill ms (i9+1))).toArray 51) by
      have h:=heap_setCell_same _ G (i9*2+1) _ _ (.int .i64 mv.2) (heap_setCell_same x G (i9*2) _ _ (.bool mv.1) HG.out)
      rw[List.setIfInBounds_toArray,List.setIfInBounds_toArray,mlFlat_set] at h
      have e:=mlFill_set ms hms9
      rw[HMv.out] at e
      rw[e] at h
      exact h)
    have HBn:=hide ((HBr.out.setCell (p:=⟨G,i9*2,none⟩) (by show w.heap.size≤G;omega) (.bool mv.1)).setCell (p:=⟨G,i9*2+1,none⟩) (by show w.heap.size≤G;omega) (.int .i64 mv.2))
    obtain⟨o1,ho1⟩:∃z,(mlFlat (mlFill ms i9))[i9*2]?=some z:=⟨_,List.getElem?_eq_getElem (by rw[mlFlat_len,mlFill_len ms (by omega)];omega)⟩
    obtain⟨o4,ho4⟩:∃z,(mlFlat (mlFill ms i9))[i9*2+1]?=some z:=⟨_,List.getElem?_eq_getElem (by rw[mlFlat_len,mlFill_len ms (by omega)];omega)⟩
    have f1:x.cell? ⟨G,i9*2,none⟩=some o1:=(cell_of_row _ _ _ _ _ _ HG.out).trans (by simpa using ho1)
    have f2:x.cell? ⟨G,i9*2+1,none⟩=some o4:=(cell_of_row _ _ _ _ _ _ HG.out).trans (by simpa using ho4)
    have z1:x.frozen? ⟨G,i9*2,none⟩=false:=frozen_of_row _ _ _ _ _ HG.out
    have z2:x.frozen? ⟨G,i9*2+1,none⟩=false:=frozen_of_row _ _ _ _ _ HG.out
    clear hD hM hmv hvx d0 HG HX HBr ho1 ho4
    go_wp2
    go_roundw
    case rel=>exact⟨i9+1,by omega,by go_num,HGn,HXM,HBn⟩
    case measure=>simp[intOf];omega
   obtain rfl:i9=V:=by omega
   have HF:Hid (MgPost w (mails k rs.flatten own) (.returned (.slice (some ⟨G,0,none⟩) i9 i9)) x):=hide (by
     rw[HLf.out,HMe.out]
     have h:=HG.out
     rw[←HMl.out,mlFill_full] at h
     exact⟨some ⟨G,0,none⟩,i9,by rw[HMl.out],by have h2:=Rd.of_block h;simpa using h2,HBr.out,fun g off e=>by injection e with e;injection e with e1 e2;omega⟩)
   clear HG HX HBr
   go_wp2
   go_ret
   exact HF.out
end Go.Proofs.YtpojjmbalgmcoaaGreat

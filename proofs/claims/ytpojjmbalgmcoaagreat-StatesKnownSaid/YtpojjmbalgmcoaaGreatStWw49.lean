/- Lemmas: Asy. -/
import Derived.Test.YtpojjmbalgmcoaaGreatStWw30
import Derived.Test.YtpojjmbalgmcoaaGreatStWw48
set_option linter.unusedVariables false
set_option linter.unusedSimpArgs false
set_option maxRecDepth 100000
set_option maxHeartbeats 16000000
namespace Go.Proofs.YtpojjmbalgmcoaaGreat
open Go.RowKit
def mayK (k j2 j3 j4 V:Int):Bool:=if k=1 then decide (0≤j3) && decide (j3≤4294967296) && decide (0≤j4) && decide (j4≤4294967296) && decide (j2=0) else if k=2 then decide (j3=0) && decide (j4=0) && decide (j2=0) else decide (j3=0) && decide (j4=0) && decide (0≤j2) && decide (j2<V)
theorem may1_any (w:World) (k j1 j2 j3 j4 V:Int):Calls Tryz.prog 135 #[.agg #[],.agg #[.int .u8 k,.int .i64 j1,.int .i64 j2,.int .i64 j3,.int .i64 j4],.int .i64 V] w fun e w'=>e = .returned (.bool (mayK 1 j2 j3 j4 V))∧Below w.heap.size w w':=by
 go_enter Tryz.func135,Tryz.ntmps135
 go_wp2
 all_goals
  go_ret
  refine⟨?_,((Below.refl _ w).alloc (Nat.le_refl _) _).alloc (by simp) _⟩
  refine ret_b ?_
  rw[Bool.eq_iff_iff]
  first | (simp[mayK];done) | (simp[mayK];omega) | (simp_all [mayK];done) | (simp_all [mayK];omega)
theorem may2_any (w:World) (k j1 j2 j3 j4 V:Int):Calls Tryz.prog 147 #[.agg #[],.agg #[.int .u8 k,.int .i64 j1,.int .i64 j2,.int .i64 j3,.int .i64 j4],.int .i64 V] w fun e w'=>e = .returned (.bool (mayK 2 j2 j3 j4 V))∧Below w.heap.size w w':=by
 go_enter Tryz.func147,Tryz.ntmps147
 go_wp2
 all_goals
  go_ret
  refine⟨?_,((Below.refl _ w).alloc (Nat.le_refl _) _).alloc (by simp) _⟩
  refine ret_b ?_
  rw[Bool.eq_iff_iff]
  first | (simp[mayK];done) | (simp[mayK];omega) | (simp_all [mayK];done) | (simp_all [mayK];omega)
theorem may3_any (w:World) (k j1 j2 j3 j4 V:Int):Calls Tryz.prog 177 #[.agg #[],.agg #[.int .u8 k,.int .i64 j1,.int .i64 j2,.int .i64 j3,.int .i64 j4],.int .i64 V] w fun e w'=>e = .returned (.bool (mayK 3 j2 j3 j4 V))∧Below w.heap.size w w':=by
 go_enter Tryz.func177,Tryz.ntmps177
 go_wp2
 all_goals
  go_ret
  refine⟨?_,((Below.refl _ w).alloc (Nat.le_refl _) _).alloc (by simp) _⟩
  refine ret_b ?_
  rw[Bool.eq_iff_iff]
  first | (simp[mayK];done) | (simp[mayK];omega) | (simp_all [mayK];done) | (simp_all [mayK];omega)
def acheckF (k j1 j2 j3 j4 V:Int) (es:List Ed):Int:=if ¬checkF V es=0 then checkF V es else if (k=1∨k=2∨k=3)∧0≤j1∧j1≤2000∧mayK k j2 j3 j4 V=true then 0 else 100
theorem acheck_any (w:World) (k j1 j2 j3 j4 V:Int) (A:Option Addr) (es:List Ed) (L c:Nat) (hL:es.length=L) (hE:Eds w w.heap.size A es) (hc:L≤9223372036854775807):Calls Tryz.prog 16 #[.agg #[.int .i64 V,.slice A L c],.agg #[.int .u8 k,.int .i64 j1,.int .i64 j2,.int .i64 j3,.int .i64 j4]] w fun e w'=>e = .returned (.int .i64 (acheckF k j1 j2 j3 j4 V es))∧Below w.heap.size w w':=by
 obtain⟨u,hu⟩:∃u,(w.alloc (.cells #[.int .i64 V,.slice A L c] 24)).alloc (.cells #[.int .u8 k,.int .i64 j1,.int .i64 j2,.int .i64 j3,.int .i64 j4] 27)=u:=⟨_,rfl⟩
 have hzu:w.heap.size+1<u.heap.size:=by rw[←hu];simp
 have hbu:=hide (show Below w.heap.size w u by rw[←hu];exact ((Below.refl _ _).alloc (Nat.le_refl _) _).alloc (by simp) _)
 have M1:=hide (show u.heap[w.heap.size+1]?=some (.cells #[.int .u8 k,.int .i64 j1,.int .i64 j2,.int .i64 j3,.int .i64 j4] 27) by rw[←hu];have h:=heap_alloc_last (w.alloc (.cells #[.int .i64 V,.slice A L c] 24)) (.cells #[.int .u8 k,.int .i64 j1,.int .i64 j2,.int .i64 j3,.int .i64 j4] 27);simpa using h)
 have M0:=hide (show u.heap[w.heap.size]?=some (.cells #[.int .i64 V,.slice A L c] 24) by rw[←hu];exact heap_alloc_keep (heap_alloc_last _ _))
 have HE:=hide (hE.next hbu.out)
 have HU:=hide hu
 clear hu hE
 obtain⟨ec,hec⟩:∃z,checkF V es=z:=⟨_,rfl⟩
 have HC:=hide hec
 have hcall:=check_any u V A es L c hL HE.out hc
 rw[hec] at hcall
 have HK:=hide hcall
 clear hcall hec
 by_cases he:ec=0
 ·subst he
  by_cases k1:k=1
  ·by_cases h1:j1<0
   ·subst k1
    have N0:=((Below.refl u.heap.size u).block _ (by omega)).trans M0.out
    obtain⟨g0,g1⟩:=zr2 N0
    clear N0
    have N1:=((Below.refl u.heap.size u).block _ hzu).trans M1.out
    obtain⟨c0,c1,c2,c3,c4⟩:=zr5 N1
    clear N1
    go_enter Tryz.func16,Tryz.ntmps16
    go_wp2_with fail
    rw[HU.out]
    refine HK.out.mono ?_
    clear g0 g1 c0 c1 c2 c3 c4
    rintro e w1 ⟨rfl,hb⟩
    have hB1:=hide (show Below u.heap.size u w1 from hb)
    have s1:u.heap.size≤w1.heap.size:=hb.size
    have N0:=(hb.block _ (by omega)).trans M0.out
    obtain⟨g0,g1⟩:=zr2 N0
    clear N0
    have N1:=(hb.block _ hzu).trans M1.out
    obtain⟨c0,c1,c2,c3,c4⟩:=zr5 N1
    clear N1
    clear hb
    go_wp2_with fail
    refine (of1 _ j1 j2 j3 j4).mono ?_
    rintro e w2 ⟨rfl,hb⟩
    have hB2:=hide (hB1.out.trans (hb.mono s1))
    have s2:w1.heap.size≤w2.heap.size:=hb.size
    clear g0 g1 c0 c1 c2 c3 c4
    have N0:=(hB2.out.block _ (by omega)).trans M0.out
    obtain⟨g0,g1⟩:=zr2 N0
    clear N0
    have N1:=(hB2.out.block _ hzu).trans M1.out
    obtain⟨c0,c1,c2,c3,c4⟩:=zr5 N1
    clear N1
    clear hb
    go_wp2
    go_ret
    exact⟨ret_i64 (by rw[show acheckF 1 j1 j2 j3 j4 V es=100 by unfold acheckF;rw[if_neg (by simp[HC.out]),if_neg (by omega)]]),hbu.out.trans (hB2.out.mono (by omega))⟩
   by_cases h2:2000<j1
   ·subst k1
    have N0:=((Below.refl u.heap.size u).block _ (by omega)).trans M0.out
    obtain⟨g0,g1⟩:=zr2 N0
    clear N0
    have N1:=((Below.refl u.heap.size u).block _ hzu).trans M1.out
    obtain⟨c0,c1,c2,c3,c4⟩:=zr5 N1
    clear N1
    go_enter Tryz.func16,Tryz.ntmps16
    go_wp2_with fail
    rw[HU.out]
    refine HK.out.mono ?_
    clear g0 g1 c0 c1 c2 c3 c4
    rintro e w1 ⟨rfl,hb⟩
    have hB1:=hide (show Below u.heap.size u w1 from hb)
    have s1:u.heap.size≤w1.heap.size:=hb.size
    have N0:=(hb.block _ (by omega)).trans M0.out
    obtain⟨g0,g1⟩:=zr2 N0
    clear N0
    have N1:=(hb.block _ hzu).trans M1.out
    obtain⟨c0,c1,c2,c3,c4⟩:=zr5 N1
    clear N1
    clear hb
    go_wp2_with fail
    refine (of1 _ j1 j2 j3 j4).mono ?_
    rintro e w2 ⟨rfl,hb⟩
    have hB2:=hide (hB1.out.trans (hb.mono s1))
    have s2:w1.heap.size≤w2.heap.size:=hb.size
    clear g0 g1 c0 c1 c2 c3 c4
    have N0:=(hB2.out.block _ (by omega)).trans M0.out
    obtain⟨g0,g1⟩:=zr2 N0
    clear N0
    have N1:=(hB2.out.block _ hzu).trans M1.out
    obtain⟨c0,c1,c2,c3,c4⟩:=zr5 N1
    clear N1
    clear hb
    go_wp2
    go_ret
    exact⟨ret_i64 (by rw[show acheckF 1 j1 j2 j3 j4 V es=100 by unfold acheckF;rw[if_neg (by simp[HC.out]),if_neg (by omega)]]),hbu.out.trans (hB2.out.mono (by omega))⟩
   rcases hm:mayK 1 j2 j3 j4 V with _ | _
   ·have hm':=hide hm
    clear hm
    subst k1
    have N0:=((Below.refl u.heap.size u).block _ (by omega)).trans M0.out
    obtain⟨g0,g1⟩:=zr2 N0
    clear N0
    have N1:=((Below.refl u.heap.size u).block _ hzu).trans M1.out
    obtain⟨c0,c1,c2,c3,c4⟩:=zr5 N1
    clear N1
    go_enter Tryz.func16,Tryz.ntmps16
    go_wp2_with fail
    rw[HU.out]
    refine HK.out.mono ?_
    clear g0 g1 c0 c1 c2 c3 c4
    rintro e w1 ⟨rfl,hb⟩
    have hB1:=hide (show Below u.heap.size u w1 from hb)
    have s1:u.heap.size≤w1.heap.size:=hb.size
    have N0:=(hb.block _ (by omega)).trans M0.out
    obtain⟨g0,g1⟩:=zr2 N0
    clear N0
    have N1:=(hb.block _ hzu).trans M1.out
    obtain⟨c0,c1,c2,c3,c4⟩:=zr5 N1
    clear N1
    clear hb
    go_wp2_with fail
    refine (of1 _ j1 j2 j3 j4).mono ?_
    rintro e w2 ⟨rfl,hb⟩
    have hB2:=hide (hB1.out.trans (hb.mono s1))
    have s2:w1.heap.size≤w2.heap.size:=hb.size
    clear g0 g1 c0 c1 c2 c3 c4
    have N0:=(hB2.out.block _ (by omega)).trans M0.out
    obtain⟨g0,g1⟩:=zr2 N0
    clear N0
    have N1:=(hB2.out.block _ hzu).trans M1.out
    obtain⟨c0,c1,c2,c3,c4⟩:=zr5 N1
    clear N1
    clear hb
    go_wp2_with fail
    refine (may1_any _ 1 j1 j2 j3 j4 V).mono ?_
    rintro e w3 ⟨rfl,hb⟩
    rw[hm'.out]
    have hB3:=hide (hB2.out.trans (hb.mono (Nat.le_trans s1 s2)))
    clear hb
    go_wp2
    go_ret
    exact⟨ret_i64 (by rw[show acheckF 1 j1 j2 j3 j4 V es=100 by unfold acheckF;rw[if_neg (by simp[HC.out]),if_neg (by rw[hm'.out];simp)]]),hbu.out.trans (hB3.out.mono (by omega))⟩
   have hm':=hide hm
   clear hm
   subst k1
   have N0:=((Below.refl u.heap.size u).block _ (by omega)).trans M0.out
   obtain⟨g0,g1⟩:=zr2 N0
   clear N0
   have N1:=((Below.refl u.heap.size u).block _ hzu).trans M1.out
   obtain⟨c0,c1,c2,c3,c4⟩:=zr5 N1
   clear N1
   go_enter Tryz.func16,Tryz.ntmps16
   go_wp2_with fail
   rw[HU.out]
   refine HK.out.mono ?_
   clear g0 g1 c0 c1 c2 c3 c4
   rintro e w1 ⟨rfl,hb⟩
   have hB1:=hide (show Below u.heap.size u w1 from hb)
   have s1:u.heap.size≤w1.heap.size:=hb.size
   have N0:=(hb.block _ (by omega)).trans M0.out
   obtain⟨g0,g1⟩:=zr2 N0
   clear N0
   have N1:=(hb.block _ hzu).trans M1.out
   obtain⟨c0,c1,c2,c3,c4⟩:=zr5 N1
   clear N1
   clear hb
   go_wp2_with fail
   refine (of1 _ j1 j2 j3 j4).mono ?_
   rintro e w2 ⟨rfl,hb⟩
   have hB2:=hide (hB1.out.trans (hb.mono s1))
   have s2:w1.heap.size≤w2.heap.size:=hb.size
   clear g0 g1 c0 c1 c2 c3 c4
   have N0:=(hB2.out.block _ (by omega)).trans M0.out
   obtain⟨g0,g1⟩:=zr2 N0
   clear N0
   have N1:=(hB2.out.block _ hzu).trans M1.out
   obtain⟨c0,c1,c2,c3,c4⟩:=zr5 N1
   clear N1
   clear hb
   go_wp2_with fail
   refine (may1_any _ 1 j1 j2 j3 j4 V).mono ?_
   rintro e w3 ⟨rfl,hb⟩
   rw[hm'.out]
   have hB3:=hide (hB2.out.trans (hb.mono (Nat.le_trans s1 s2)))
   clear hb
   go_wp2
   go_ret
   exact⟨ret_i64 (by rw[show acheckF 1 j1 j2 j3 j4 V es=0 by unfold acheckF;rw[if_neg (by simp[HC.out]),if_pos ⟨by simp,by omega,by omega,hm'.out⟩]]),hbu.out.trans (hB3.out.mono (by omega))⟩
  by_cases k2:k=2
  ·by_cases h1:j1<0
   ·subst k2
    have N0:=((Below.refl u.heap.size u).block _ (by omega)).trans M0.out
    obtain⟨g0,g1⟩:=zr2 N0
    clear N0
    have N1:=((Below.refl u.heap.size u).block _ hzu).trans M1.out
    obtain⟨c0,c1,c2,c3,c4⟩:=zr5 N1
    clear N1
    go_enter Tryz.func16,Tryz.ntmps16
    go_wp2_with fail
    rw[HU.out]
    refine HK.out.mono ?_
    clear g0 g1 c0 c1 c2 c3 c4
    rintro e w1 ⟨rfl,hb⟩
    have hB1:=hide (show Below u.heap.size u w1 from hb)
    have s1:u.heap.size≤w1.heap.size:=hb.size
    have N0:=(hb.block _ (by omega)).trans M0.out
    obtain⟨g0,g1⟩:=zr2 N0
    clear N0
    have N1:=(hb.block _ hzu).trans M1.out
    obtain⟨c0,c1,c2,c3,c4⟩:=zr5 N1
    clear N1
    clear hb
    go_wp2_with fail
    refine (of2 _ j1 j2 j3 j4).mono ?_
    rintro e w2 ⟨rfl,hb⟩
    have hB2:=hide (hB1.out.trans (hb.mono s1))
    have s2:w1.heap.size≤w2.heap.size:=hb.size
    clear g0 g1 c0 c1 c2 c3 c4
    have N0:=(hB2.out.block _ (by omega)).trans M0.out
    obtain⟨g0,g1⟩:=zr2 N0
    clear N0
    have N1:=(hB2.out.block _ hzu).trans M1.out
    obtain⟨c0,c1,c2,c3,c4⟩:=zr5 N1
    clear N1
    clear hb
    go_wp2
    go_ret
    exact⟨ret_i64 (by rw[show acheckF 2 j1 j2 j3 j4 V es=100 by unfold acheckF;rw[if_neg (by simp[HC.out]),if_neg (by omega)]]),hbu.out.trans (hB2.out.mono (by omega))⟩
   by_cases h2:2000<j1
   ·subst k2
    have N0:=((Below.refl u.heap.size u).block _ (by omega)).trans M0.out
    obtain⟨g0,g1⟩:=zr2 N0
    clear N0
    have N1:=((Below.refl u.heap.size u).block _ hzu).trans M1.out
    obtain⟨c0,c1,c2,c3,c4⟩:=zr5 N1
    clear N1
    go_enter Tryz.func16,Tryz.ntmps16
    go_wp2_with fail
    rw[HU.out]
    refine HK.out.mono ?_
    clear g0 g1 c0 c1 c2 c3 c4
    rintro e w1 ⟨rfl,hb⟩
    have hB1:=hide (show Below u.heap.size u w1 from hb)
    have s1:u.heap.size≤w1.heap.size:=hb.size
    have N0:=(hb.block _ (by omega)).trans M0.out
    obtain⟨g0,g1⟩:=zr2 N0
    clear N0
    have N1:=(hb.block _ hzu).trans M1.out
    obtain⟨c0,c1,c2,c3,c4⟩:=zr5 N1
    clear N1
    clear hb
    go_wp2_with fail
    refine (of2 _ j1 j2 j3 j4).mono ?_
    rintro e w2 ⟨rfl,hb⟩
    have hB2:=hide (hB1.out.trans (hb.mono s1))
    have s2:w1.heap.size≤w2.heap.size:=hb.size
    clear g0 g1 c0 c1 c2 c3 c4
    have N0:=(hB2.out.block _ (by omega)).trans M0.out
    obtain⟨g0,g1⟩:=zr2 N0
    clear N0
    have N1:=(hB2.out.block _ hzu).trans M1.out
    obtain⟨c0,c1,c2,c3,c4⟩:=zr5 N1
    clear N1
    clear hb
    go_wp2
    go_ret
    exact⟨ret_i64 (by rw[show acheckF 2 j1 j2 j3 j4 V es=100 by unfold acheckF;rw[if_neg (by simp[HC.out]),if_neg (by omega)]]),hbu.out.trans (hB2.out.mono (by omega))⟩
   rcases hm:mayK 2 j2 j3 j4 V with _ | _
   ·have hm':=hide hm
    clear hm
    subst k2
    have N0:=((Below.refl u.heap.size u).block _ (by omega)).trans M0.out
    obtain⟨g0,g1⟩:=zr2 N0
    clear N0
    have N1:=((Below.refl u.heap.size u).block _ hzu).trans M1.out
    obtain⟨c0,c1,c2,c3,c4⟩:=zr5 N1
    clear N1
    go_enter Tryz.func16,Tryz.ntmps16
    go_wp2_with fail
    rw[HU.out]
    refine HK.out.mono ?_
    clear g0 g1 c0 c1 c2 c3 c4
    rintro e w1 ⟨rfl,hb⟩
    have hB1:=hide (show Below u.heap.size u w1 from hb)
    have s1:u.heap.size≤w1.heap.size:=hb.size
    have N0:=(hb.block _ (by omega)).trans M0.out
    obtain⟨g0,g1⟩:=zr2 N0
    clear N0
    have N1:=(hb.block _ hzu).trans M1.out
    obtain⟨c0,c1,c2,c3,c4⟩:=zr5 N1
    clear N1
    clear hb
    go_wp2_with fail
    refine (of2 _ j1 j2 j3 j4).mono ?_
    rintro e w2 ⟨rfl,hb⟩
    have hB2:=hide (hB1.out.trans (hb.mono s1))
    have s2:w1.heap.size≤w2.heap.size:=hb.size
    clear g0 g1 c0 c1 c2 c3 c4
    have N0:=(hB2.out.block _ (by omega)).trans M0.out
    obtain⟨g0,g1⟩:=zr2 N0
    clear N0
    have N1:=(hB2.out.block _ hzu).trans M1.out
    obtain⟨c0,c1,c2,c3,c4⟩:=zr5 N1
    clear N1
    clear hb
    go_wp2_with fail
    refine (may2_any _ 2 j1 j2 j3 j4 V).mono ?_
    rintro e w3 ⟨rfl,hb⟩
    rw[hm'.out]
    have hB3:=hide (hB2.out.trans (hb.mono (Nat.le_trans s1 s2)))
    clear hb
    go_wp2
    go_ret
    exact⟨ret_i64 (by rw[show acheckF 2 j1 j2 j3 j4 V es=100 by unfold acheckF;rw[if_neg (by simp[HC.out]),if_neg (by rw[hm'.out];simp)]]),hbu.out.trans (hB3.out.mono (by omega))⟩
   have hm':=hide hm
   clear hm
   subst k2
   have N0:=((Below.refl u.heap.size u).block _ (by omega)).trans M0.out
   obtain⟨g0,g1⟩:=zr2 N0
   clear N0
   have N1:=((Below.refl u.heap.size u).block _ hzu).trans M1.out
   obtain⟨c0,c1,c2,c3,c4⟩:=zr5 N1
   clear N1
   go_enter Tryz.func16,Tryz.ntmps16
   go_wp2_with fail
   rw[HU.out]
   refine HK.out.mono ?_
   clear g0 g1 c0 c1 c2 c3 c4
   rintro e w1 ⟨rfl,hb⟩
   have hB1:=hide (show Below u.heap.size u w1 from hb)
   have s1:u.heap.size≤w1.heap.size:=hb.size
   have N0:=(hb.block _ (by omega)).trans M0.out
   obtain⟨g0,g1⟩:=zr2 N0
   clear N0
   have N1:=(hb.block _ hzu).trans M1.out
   obtain⟨c0,c1,c2,c3,c4⟩:=zr5 N1
   clear N1
   clear hb
   go_wp2_with fail
   refine (of2 _ j1 j2 j3 j4).mono ?_
   rintro e w2 ⟨rfl,hb⟩
   have hB2:=hide (hB1.out.trans (hb.mono s1))
   have s2:w1.heap.size≤w2.heap.size:=hb.size
   clear g0 g1 c0 c1 c2 c3 c4
   have N0:=(hB2.out.block _ (by omega)).trans M0.out
   obtain⟨g0,g1⟩:=zr2 N0
   clear N0
   have N1:=(hB2.out.block _ hzu).trans M1.out
   obtain⟨c0,c1,c2,c3,c4⟩:=zr5 N1
   clear N1
   clear hb
   go_wp2_with fail
   refine (may2_any _ 2 j1 j2 j3 j4 V).mono ?_
   rintro e w3 ⟨rfl,hb⟩
   rw[hm'.out]
   have hB3:=hide (hB2.out.trans (hb.mono (Nat.le_trans s1 s2)))
   clear hb
   go_wp2
   go_ret
   exact⟨ret_i64 (by rw[show acheckF 2 j1 j2 j3 j4 V es=0 by unfold acheckF;rw[if_neg (by simp[HC.out]),if_pos ⟨by simp,by omega,by omega,hm'.out⟩]]),hbu.out.trans (hB3.out.mono (by omega))⟩
  by_cases k3:k=3
  ·by_cases h1:j1<0
   ·subst k3
    have N0:=((Below.refl u.heap.size u).block _ (by omega)).trans M0.out
    obtain⟨g0,g1⟩:=zr2 N0
    clear N0
    have N1:=((Below.refl u.heap.size u).block _ hzu).trans M1.out
    obtain⟨c0,c1,c2,c3,c4⟩:=zr5 N1
    clear N1
    go_enter Tryz.func16,Tryz.ntmps16
    go_wp2_with fail
    rw[HU.out]
    refine HK.out.mono ?_
    clear g0 g1 c0 c1 c2 c3 c4
    rintro e w1 ⟨rfl,hb⟩
    have hB1:=hide (show Below u.heap.size u w1 from hb)
    have s1:u.heap.size≤w1.heap.size:=hb.size
    have N0:=(hb.block _ (by omega)).trans M0.out
    obtain⟨g0,g1⟩:=zr2 N0
    clear N0
    have N1:=(hb.block _ hzu).trans M1.out
    obtain⟨c0,c1,c2,c3,c4⟩:=zr5 N1
    clear N1
    clear hb
    go_wp2_with fail
    refine (of3 _ j1 j2 j3 j4).mono ?_
    rintro e w2 ⟨rfl,hb⟩
    have hB2:=hide (hB1.out.trans (hb.mono s1))
    have s2:w1.heap.size≤w2.heap.size:=hb.size
    clear g0 g1 c0 c1 c2 c3 c4
    have N0:=(hB2.out.block _ (by omega)).trans M0.out
    obtain⟨g0,g1⟩:=zr2 N0
    clear N0
    have N1:=(hB2.out.block _ hzu).trans M1.out
    obtain⟨c0,c1,c2,c3,c4⟩:=zr5 N1
    clear N1
    clear hb
    go_wp2
    go_ret
    exact⟨ret_i64 (by rw[show acheckF 3 j1 j2 j3 j4 V es=100 by unfold acheckF;rw[if_neg (by simp[HC.out]),if_neg (by omega)]]),hbu.out.trans (hB2.out.mono (by omega))⟩
   by_cases h2:2000<j1
   ·subst k3
    have N0:=((Below.refl u.heap.size u).block _ (by omega)).trans M0.out
    obtain⟨g0,g1⟩:=zr2 N0
    clear N0
    have N1:=((Below.refl u.heap.size u).block _ hzu).trans M1.out
    obtain⟨c0,c1,c2,c3,c4⟩:=zr5 N1
    clear N1
    go_enter Tryz.func16,Tryz.ntmps16
    go_wp2_with fail
    rw[HU.out]
    refine HK.out.mono ?_
    clear g0 g1 c0 c1 c2 c3 c4
    rintro e w1 ⟨rfl,hb⟩
    have hB1:=hide (show Below u.heap.size u w1 from hb)
    have s1:u.heap.size≤w1.heap.size:=hb.size
    have N0:=(hb.block _ (by omega)).trans M0.out
    obtain⟨g0,g1⟩:=zr2 N0
    clear N0
    have N1:=(hb.block _ hzu).trans M1.out
    obtain⟨c0,c1,c2,c3,c4⟩:=zr5 N1
    clear N1
    clear hb
    go_wp2_with fail
    refine (of3 _ j1 j2 j3 j4).mono ?_
    rintro e w2 ⟨rfl,hb⟩
    have hB2:=hide (hB1.out.trans (hb.mono s1))
    have s2:w1.heap.size≤w2.heap.size:=hb.size
    clear g0 g1 c0 c1 c2 c3 c4
    have N0:=(hB2.out.block _ (by omega)).trans M0.out
    obtain⟨g0,g1⟩:=zr2 N0
    clear N0
    have N1:=(hB2.out.block _ hzu).trans M1.out
    obtain⟨c0,c1,c2,c3,c4⟩:=zr5 N1
    clear N1
    clear hb
    go_wp2
    go_ret
    exact⟨ret_i64 (by rw[show acheckF 3 j1 j2 j3 j4 V es=100 by unfold acheckF;rw[if_neg (by simp[HC.out]),if_neg (by omega)]]),hbu.out.trans (hB2.out.mono (by omega))⟩
   rcases hm:mayK 3 j2 j3 j4 V with _ | _
   ·have hm':=hide hm
    clear hm
    subst k3
    have N0:=((Below.refl u.heap.size u).block _ (by omega)).trans M0.out
    obtain⟨g0,g1⟩:=zr2 N0
    clear N0
    have N1:=((Below.refl u.heap.size u).block _ hzu).trans M1.out
    obtain⟨c0,c1,c2,c3,c4⟩:=zr5 N1
    clear N1
    go_enter Tryz.func16,Tryz.ntmps16
    go_wp2_with fail
    rw[HU.out]
    refine HK.out.mono ?_
    clear g0 g1 c0 c1 c2 c3 c4
    rintro e w1 ⟨rfl,hb⟩
    have hB1:=hide (show Below u.heap.size u w1 from hb)
    have s1:u.heap.size≤w1.heap.size:=hb.size
    have N0:=(hb.block _ (by omega)).trans M0.out
    obtain⟨g0,g1⟩:=zr2 N0
    clear N0
    have N1:=(hb.block _ hzu).trans M1.out
    obtain⟨c0,c1,c2,c3,c4⟩:=zr5 N1
    clear N1
    clear hb
    go_wp2_with fail
    refine (of3 _ j1 j2 j3 j4).mono ?_
    rintro e w2 ⟨rfl,hb⟩
    have hB2:=hide (hB1.out.trans (hb.mono s1))
    have s2:w1.heap.size≤w2.heap.size:=hb.size
    clear g0 g1 c0 c1 c2 c3 c4
    have N0:=(hB2.out.block _ (by omega)).trans M0.out
    obtain⟨g0,g1⟩:=zr2 N0
    clear N0
    have N1:=(hB2.out.block _ hzu).trans M1.out
    obtain⟨c0,c1,c2,c3,c4⟩:=zr5 N1
    clear N1
    clear hb
    go_wp2_with fail
    refine (may3_any _ 3 j1 j2 j3 j4 V).mono ?_
    rintro e w3 ⟨rfl,hb⟩
    rw[hm'.out]
    have hB3:=hide (hB2.out.trans (hb.mono (Nat.le_trans s1 s2)))
    clear hb
    go_wp2
    go_ret
    exact⟨ret_i64 (by rw[show acheckF 3 j1 j2 j3 j4 V es=100 by unfold acheckF;rw[if_neg (by simp[HC.out]),if_neg (by rw[hm'.out];simp)]]),hbu.out.trans (hB3.out.mono (by omega))⟩
   have hm':=hide hm
   clear hm
   subst k3
   have N0:=((Below.refl u.heap.size u).block _ (by omega)).trans M0.out
   obtain⟨g0,g1⟩:=zr2 N0
   clear N0
   have N1:=((Below.refl u.heap.size u).block _ hzu).trans M1.out
   obtain⟨c0,c1,c2,c3,c4⟩:=zr5 N1
   clear N1
   go_enter Tryz.func16,Tryz.ntmps16
   go_wp2_with fail
   rw[HU.out]
   refine HK.out.mono ?_
   clear g0 g1 c0 c1 c2 c3 c4
   rintro e w1 ⟨rfl,hb⟩
   have hB1:=hide (show Below u.heap.size u w1 from hb)
   have s1:u.heap.size≤w1.heap.size:=hb.size
   have N0:=(hb.block _ (by omega)).trans M0.out
   obtain⟨g0,g1⟩:=zr2 N0
   clear N0
   have N1:=(hb.block _ hzu).trans M1.out
   obtain⟨c0,c1,c2,c3,c4⟩:=zr5 N1
   clear N1
   clear hb
   go_wp2_with fail
   refine (of3 _ j1 j2 j3 j4).mono ?_
   rintro e w2 ⟨rfl,hb⟩
   have hB2:=hide (hB1.out.trans (hb.mono s1))
   have s2:w1.heap.size≤w2.heap.size:=hb.size
   clear g0 g1 c0 c1 c2 c3 c4
   have N0:=(hB2.out.block _ (by omega)).trans M0.out
   obtain⟨g0,g1⟩:=zr2 N0
   clear N0
   have N1:=(hB2.out.block _ hzu).trans M1.out
   obtain⟨c0,c1,c2,c3,c4⟩:=zr5 N1
   clear N1
   clear hb
   go_wp2_with fail
   refine (may3_any _ 3 j1 j2 j3 j4 V).mono ?_
   rintro e w3 ⟨rfl,hb⟩
   rw[hm'.out]
   have hB3:=hide (hB2.out.trans (hb.mono (Nat.le_trans s1 s2)))
   clear hb
   go_wp2
   go_ret
   exact⟨ret_i64 (by rw[show acheckF 3 j1 j2 j3 j4 V es=0 by unfold acheckF;rw[if_neg (by simp[HC.out]),if_pos ⟨by simp,by omega,by omega,hm'.out⟩]]),hbu.out.trans (hB3.out.mono (by omega))⟩
  have N0:=((Below.refl u.heap.size u).block _ (by omega)).trans M0.out
  obtain⟨g0,g1⟩:=zr2 N0
  clear N0
  have N1:=((Below.refl u.heap.size u).block _ hzu).trans M1.out
  obtain⟨c0,c1,c2,c3,c4⟩:=zr5 N1
  clear N1
  go_enter Tryz.func16,Tryz.ntmps16
  go_wp2_with fail
  rw[HU.out]
  refine HK.out.mono ?_
  clear g0 g1 c0 c1 c2 c3 c4
  rintro e w1 ⟨rfl,hb⟩
  have hB1:=hide (show Below u.heap.size u w1 from hb)
  have s1:u.heap.size≤w1.heap.size:=hb.size
  have N0:=(hb.block _ (by omega)).trans M0.out
  obtain⟨g0,g1⟩:=zr2 N0
  clear N0
  have N1:=(hb.block _ hzu).trans M1.out
  obtain⟨c0,c1,c2,c3,c4⟩:=zr5 N1
  clear N1
  clear hb
  go_wp2_with fail
  refine (of0 _ k k1 k2 k3 j1 j2 j3 j4).mono ?_
  rintro e w2 ⟨rfl,hb⟩
  have hB2:=hide (hB1.out.trans (hb.mono s1))
  have s2:w1.heap.size≤w2.heap.size:=hb.size
  clear g0 g1 c0 c1 c2 c3 c4
  have N0:=(hB2.out.block _ (by omega)).trans M0.out
  obtain⟨g0,g1⟩:=zr2 N0
  clear N0
  have N1:=(hB2.out.block _ hzu).trans M1.out
  obtain⟨c0,c1,c2,c3,c4⟩:=zr5 N1
  clear N1
  clear hb
  go_wp2
  go_ret
  exact⟨ret_i64 (by rw[show acheckF k j1 j2 j3 j4 V es=100 by unfold acheckF;rw[if_neg (by simp[HC.out]),if_neg (by simp[k1,k2,k3])]]),hbu.out.trans (hB2.out.mono (by omega))⟩
 have N0:=((Below.refl u.heap.size u).block _ (by omega)).trans M0.out
 obtain⟨g0,g1⟩:=zr2 N0
 clear N0
 have N1:=((Below.refl u.heap.size u).block _ hzu).trans M1.out
 obtain⟨c0,c1,c2,c3,c4⟩:=zr5 N1
 clear N1
 go_enter Tryz.func16,Tryz.ntmps16
 go_wp2_with fail
 rw[HU.out]
 refine HK.out.mono ?_
 clear g0 g1 c0 c1 c2 c3 c4
 rintro e w1 ⟨rfl,hb⟩
 have hB1:=hide (show Below u.heap.size u w1 from hb)
 have s1:u.heap.size≤w1.heap.size:=hb.size
 have N0:=(hb.block _ (by omega)).trans M0.out
 obtain⟨g0,g1⟩:=zr2 N0
 clear N0
 have N1:=(hb.block _ hzu).trans M1.out
 obtain⟨c0,c1,c2,c3,c4⟩:=zr5 N1
 clear N1
 clear hb
 go_wp2
 go_ret
 exact⟨ret_i64 (by rw[show acheckF k j1 j2 j3 j4 V es=ec by unfold acheckF;rw[HC.out,if_pos he]]),hbu.out.trans (hB1.out.mono (by omega))⟩
end Go.Proofs.YtpojjmbalgmcoaaGreat

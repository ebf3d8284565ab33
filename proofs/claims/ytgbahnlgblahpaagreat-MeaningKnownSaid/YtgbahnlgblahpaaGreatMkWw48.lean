/- Lemmas: Acr. -/
import Derived.Test.YtgbahnlgblahpaaGreatMkWw34
import Derived.Test.YtgbahnlgblahpaaGreatMkWw40
set_option linter.unusedVariables false
set_option linter.unusedSimpArgs false
set_option maxRecDepth 100000
set_option maxHeartbeats 16000000
namespace Go.Proofs.YtgbahnlgblahpaaGreat
open Go.RowKit
theorem racheck_any (w:World) (k j1 j2 j3 j4 V:Int) (A:Option Addr) (es:List Ed) (L c:Nat) (hL:es.length=L) (hE:Eds w w.heap.size A es) (hc:L≤9223372036854775807):Calls Tryz.prog 60 #[.agg #[.int .i64 V,.slice A L c],.agg #[.int .u8 k,.int .i64 j1,.int .i64 j2,.int .i64 j3,.int .i64 j4]] w fun e w'=>e = .returned (.int .i64 (acheckF k j1 j2 j3 j4 V es))∧Below w.heap.size w w':=by
 obtain⟨u,hu⟩:∃u,(w.alloc (.cells #[.int .i64 V,.slice A L c] 24)).alloc (.cells #[.int .u8 k,.int .i64 j1,.int .i64 j2,.int .i64 j3,.int .i64 j4] 26)=u:=⟨_,rfl⟩
 have hzu:w.heap.size+1<u.heap.size:=by rw[←hu];simp
 have hbu:=hide (show Below w.heap.size w u by rw[←hu];exact ((Below.refl _ _).alloc (Nat.le_refl _) _).alloc (by simp) _)
 have M1:=hide (show u.heap[w.heap.size+1]?=some (.cells #[.int .u8 k,.int .i64 j1,.int .i64 j2,.int .i64 j3,.int .i64 j4] 26) by rw[←hu];have h:=heap_alloc_last (w.alloc (.cells #[.int .i64 V,.slice A L c] 24)) (.cells #[.int .u8 k,.int .i64 j1,.int .i64 j2,.int .i64 j3,.int .i64 j4] 26);simpa using h)
 have M0:=hide (show u.heap[w.heap.size]?=some (.cells #[.int .i64 V,.slice A L c] 24) by rw[←hu];exact heap_alloc_keep (heap_alloc_last _ _))
 have HE:=hide (hE.next hbu.out)
 have HU:=hide hu
 clear hu hE
 obtain⟨ec,hec⟩:∃z,checkF V es=z:=⟨_,rfl⟩
 have HC:=hide hec
 have hcall:=rcheck_any u V A es L c hL HE.out hc
 rw[hec] at hcall
 have HK:=hide hcall
 clear hcall hec
 by_cases he:ec=0
 ·subst he
  by_cases k1:k=1
  ·subst k1
   have N0:=((Below.refl u.heap.size u).block _ (by omega)).trans M0.out
   obtain⟨g0,g1⟩:=zr2 N0
   clear N0
   have N1:=((Below.refl u.heap.size u).block _ hzu).trans M1.out
   obtain⟨c0,c1,c2,c3,c4⟩:=zr5 N1
   clear N1
   go_enter Tryz.func60,Tryz.ntmps60
   go_wp2_with fail
   rw[HU.out]
   refine HK.out.mono ?_
   clear g0 g1 c0 c1 c2 c3 c4
   rintro e w1 ⟨rfl,hb⟩
   have hB1:=hide (show Below u.heap.size u w1 from hb)
   have s1:u.heap.size≤w1.heap.size:=hb.size
   have N0:=(hb.block _ (by omega)).trans M0.out
   obtain⟨g0,g1⟩:=zr2 N0
   clear N0
   have N1:=(hb.block _ hzu).trans M1.out
   obtain⟨c0,c1,c2,c3,c4⟩:=zr5 N1
   clear N1
   clear hb
   go_wp2
   all_goals
    go_ret
    refine⟨ret_i64 ?_,hbu.out.trans (hB1.out.mono (by omega))⟩
    unfold acheckF
    rw[HC.out]
    first | (simp_all [mayK];done) | (simp_all [mayK];omega)
  by_cases k3:k=3
  ·subst k3
   have N0:=((Below.refl u.heap.size u).block _ (by omega)).trans M0.out
   obtain⟨g0,g1⟩:=zr2 N0
   clear N0
   have N1:=((Below.refl u.heap.size u).block _ hzu).trans M1.out
   obtain⟨c0,c1,c2,c3,c4⟩:=zr5 N1
   clear N1
   go_enter Tryz.func60,Tryz.ntmps60
   go_wp2_with fail
   rw[HU.out]
   refine HK.out.mono ?_
   clear g0 g1 c0 c1 c2 c3 c4
   rintro e w1 ⟨rfl,hb⟩
   have hB1:=hide (show Below u.heap.size u w1 from hb)
   have s1:u.heap.size≤w1.heap.size:=hb.size
   have N0:=(hb.block _ (by omega)).trans M0.out
   obtain⟨g0,g1⟩:=zr2 N0
   clear N0
   have N1:=(hb.block _ hzu).trans M1.out
   obtain⟨c0,c1,c2,c3,c4⟩:=zr5 N1
   clear N1
   clear hb
   go_wp2
   all_goals
    go_ret
    refine⟨ret_i64 ?_,hbu.out.trans (hB1.out.mono (by omega))⟩
    unfold acheckF
    rw[HC.out]
    first | (simp_all [mayK];done) | (simp_all [mayK];omega)
  by_cases k2:k=2
  ·subst k2
   have N0:=((Below.refl u.heap.size u).block _ (by omega)).trans M0.out
   obtain⟨g0,g1⟩:=zr2 N0
   clear N0
   have N1:=((Below.refl u.heap.size u).block _ hzu).trans M1.out
   obtain⟨c0,c1,c2,c3,c4⟩:=zr5 N1
   clear N1
   go_enter Tryz.func60,Tryz.ntmps60
   go_wp2_with fail
   rw[HU.out]
   refine HK.out.mono ?_
   clear g0 g1 c0 c1 c2 c3 c4
   rintro e w1 ⟨rfl,hb⟩
   have hB1:=hide (show Below u.heap.size u w1 from hb)
   have s1:u.heap.size≤w1.heap.size:=hb.size
   have N0:=(hb.block _ (by omega)).trans M0.out
   obtain⟨g0,g1⟩:=zr2 N0
   clear N0
   have N1:=(hb.block _ hzu).trans M1.out
   obtain⟨c0,c1,c2,c3,c4⟩:=zr5 N1
   clear N1
   clear hb
   go_wp2
   all_goals
    go_ret
    refine⟨ret_i64 ?_,hbu.out.trans (hB1.out.mono (by omega))⟩
    unfold acheckF
    rw[HC.out]
    first | (simp_all [mayK];done) | (simp_all [mayK];omega)
  obtain⟨hk1,hk2,hk3⟩:decide (k=1)=false∧decide (k=2)=false∧decide (k=3)=false:=by simp[k1,k2,k3]
  have N0:=((Below.refl u.heap.size u).block _ (by omega)).trans M0.out
  obtain⟨g0,g1⟩:=zr2 N0
  clear N0
  have N1:=((Below.refl u.heap.size u).block _ hzu).trans M1.out
  obtain⟨c0,c1,c2,c3,c4⟩:=zr5 N1
  clear N1
  go_enter Tryz.func60,Tryz.ntmps60
  go_wp2_with fail
  rw[HU.out]
  refine HK.out.mono ?_
  clear g0 g1 c0 c1 c2 c3 c4
  rintro e w1 ⟨rfl,hb⟩
  have hB1:=hide (show Below u.heap.size u w1 from hb)
  have s1:u.heap.size≤w1.heap.size:=hb.size
  have N0:=(hb.block _ (by omega)).trans M0.out
  obtain⟨g0,g1⟩:=zr2 N0
  clear N0
  have N1:=(hb.block _ hzu).trans M1.out
  obtain⟨c0,c1,c2,c3,c4⟩:=zr5 N1
  clear N1
  clear hb
  go_wp2
  all_goals
   go_ret
   refine⟨ret_i64 ?_,hbu.out.trans (hB1.out.mono (by omega))⟩
   unfold acheckF
   rw[HC.out]
   first | (simp_all [mayK];done) | (simp_all [mayK];omega)
 have N0:=((Below.refl u.heap.size u).block _ (by omega)).trans M0.out
 obtain⟨g0,g1⟩:=zr2 N0
 clear N0
 have N1:=((Below.refl u.heap.size u).block _ hzu).trans M1.out
 obtain⟨c0,c1,c2,c3,c4⟩:=zr5 N1
 clear N1
 go_enter Tryz.func60,Tryz.ntmps60
 go_wp2_with fail
 rw[HU.out]
 refine HK.out.mono ?_
 clear g0 g1 c0 c1 c2 c3 c4
 rintro e w1 ⟨rfl,hb⟩
 have hB1:=hide (show Below u.heap.size u w1 from hb)
 have s1:u.heap.size≤w1.heap.size:=hb.size
 have N0:=(hb.block _ (by omega)).trans M0.out
 obtain⟨g0,g1⟩:=zr2 N0
 clear N0
 have N1:=(hb.block _ hzu).trans M1.out
 obtain⟨c0,c1,c2,c3,c4⟩:=zr5 N1
 clear N1
 clear hb
 go_wp2
 go_ret
 exact⟨ret_i64 (by rw[show acheckF k j1 j2 j3 j4 V es=ec by unfold acheckF;rw[HC.out,if_pos he]]),hbu.out.trans (hB1.out.mono (by omega))⟩
end Go.Proofs.YtgbahnlgblahpaaGreat

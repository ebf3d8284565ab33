/- The document's Same of two graphs. -/
import Derived.Test.YtihdpfjonkagaaaSme
namespace Go.Proofs.Ytihdpfjonkagaaa
open Go.RowKit
set_option linter.unusedVariables false
set_option linter.unusedSimpArgs false
set_option maxRecDepth 100000 in
set_option maxHeartbeats 4000000 in
theorem gsame_any (w : World) (V1 V2 : Int) (A1 A2 : Option Addr) (es1 es2 : List Ed) (n1 c1 n2 c2 : Nat) (hn1 : es1.length = n1) (hn2 : es2.length = n2) (b1 : n1 ≤ 9223372036854775807) (r1 : Eds w w.heap.size A1 es1) (r2 : Eds w w.heap.size A2 es2) :
    Calls Try.prog 23 #[.agg #[.int .i64 V1, .slice A1 n1 c1], .agg #[.int .i64 V2, .slice A2 n2 c2]] w fun e w' => e = .returned (.bool (decide (V1 = V2) && eqL es1 es2)) ∧ Below w.heap.size w w' := by
  obtain ⟨v, hv⟩ : ∃ v, (w.alloc (.cells #[.int .i64 V1, .slice A1 n1 c1] 30)).alloc (.cells #[.int .i64 V2, .slice A2 n2 c2] 30) = v := ⟨_, rfl⟩
  have hb : Below w.heap.size w v := by rw [← hv]; exact ((Below.refl _ _).alloc (Nat.le_refl _) _).alloc (by simp) _
  have HVB := hide (show Below w.heap.size w ((w.alloc (.cells #[.int .i64 V1, .slice A1 n1 c1] 30)).alloc (.cells #[.int .i64 V2, .slice A2 n2 c2] 30)) by rw [hv]; exact hb)
  have HV := hide hv
  have HB := hide hb
  have R1 := hide (Eds.next r1 hb)
  have R2 := hide (Eds.next r2 hb)
  clear hv hb r1 r2
  by_cases e1 : V1 = V2
  · subst e1
    go_enter Try.func23, Try.ntmps23
    go_wp2_with fail
    rw [HV.out]
    refine (sameEdges_any _ A1 A2 es1 es2 n1 n2 c1 c2 hn1 hn2 b1 R1.out R2.out).mono ?_
    rintro e z1 ⟨rfl, k1⟩
    have G1 := hide (HB.out.trans (k1.mono HB.out.size))
    clear k1
    go_wp2
    go_ret
    exact ⟨ret_b (by simp), G1.out⟩
  · have e1' : (V1 == V2) = false := by simp only [beq_eq_false_iff_ne, ne_eq]; exact e1
    have HF := hide (show decide (V1 = V2) = false from decide_eq_false e1)
    clear e1
    go_enter Try.func23, Try.ntmps23
    go_wp2
    go_ret
    exact ⟨ret_b (by rw [HF.out]; simp), HVB.out⟩
end Go.Proofs.Ytihdpfjonkagaaa

/- The statement AlgosSend: for every input the call returns true, and each argument reads afterwards as it did. No condition. -/
import Derived.Test.YtihlhkbdgbkafaaRows
import Derived.Test.YtihlhkbdgbkafaaRow
import Derived.Test.YtihlhkbdgbkafaaOjb
import Derived.Test.YtihlhkbdgbkafaaOed
import Derived.Test.YtihlhkbdgbkafaaSej
namespace Go.Proofs.Ytihlhkbdgbkafaa.algosSend
open Go.ChangeShapes Go.WideShapes Go.ChangeAt Go.RowKit
set_option linter.unusedVariables false

set_option maxRecDepth 100000 in
theorem lifted (os : Os) (started : os.Started) (H : Type) (enc : TypeId × Value → H) :
    ReturnsInHanded {} Try.checked os 5 .any (Rows.algosSendSpec.pre6 enc Try.prog Try.f5 Rows.algosSendRow.domain false) (Rows.algosSendSpec.post enc Try.prog Try.f5 false true false false) := by
  refine returnsInHanded_of_change_sized (C := Try.checked) row_own started (by kernel_rfl) Try.func5
    (ChangeSpec.witness6 (enc := enc) (C := Try.checked) false ⟨#[], #[.agg (List.toArray (.int .u8 0 :: .int .i64 0 :: .int .i64 0 :: .int .i64 0 :: .int .i64 0 :: List.nil)), .int .i64 0, .int .i64 0, .bool false, .slice none 0 0, .slice none 0 0], []⟩ 8 (by kernel_rfl) (by kernel_rfl) (by kernel_rfl) (by kernel_rfl)) ?_
  intro W base args ds gs before hval0 hW hcnd hsz0 _
  have hval : ∀ (j : Nat) t v, Try.f5.params[j]? = some t → args[j]? = some v → Value.okWide Try.prog W .any base t v := hval0
  have hsz : (DataW.weightsEach Try.prog (Try.f5.params.toList ++ Rows.algosSendSpec.plain.varTypes Try.prog) (ds ++ gs)).all (· ≤ reachBytes) = true := hsz0
  have hW' := hW
  obtain ⟨p, q, hA0, hV, rfl, hfz, hnd⟩ := hW
  have hA : DataW.TrodAll enc Try.prog W 0 (fun _ => true) true Try.f5.params.toList args.toList ds p := hA0
  rw [Try.params5] at hA hval hsz
  obtain ⟨v0, vs0, d0, ds0, p0, q0, hargs, rfl, rfl, h0, r0⟩ := trodAll_cons hA
  obtain ⟨v1, vs1, d1, ds1, p1, q1, rfl, rfl, rfl, h1, r1⟩ := trodAll_cons r0
  obtain ⟨v2, vs2, d2, ds2, p2, q2, rfl, rfl, rfl, h2, r2⟩ := trodAll_cons r1
  obtain ⟨v3, vs3, d3, ds3, p3, q3, rfl, rfl, rfl, h3, r3⟩ := trodAll_cons r2
  obtain ⟨v4, vs4, d4, ds4, p4, q4, rfl, rfl, rfl, h4, r4⟩ := trodAll_cons r3
  obtain ⟨v5, vs5, d5, ds5, p5, q5, rfl, rfl, rfl, h5, r5⟩ := trodAll_cons r4
  obtain ⟨rfl, rfl, rfl⟩ := trodAll_nil r5
  obtain rfl : args = #[v0, v1, v2, v3, v4, v5] := by cases args; simp_all
  obtain ⟨rfl, rfl⟩ := trodVars_none hV
  obtain ⟨jk0, ja0, jb0, jc0, jd0, rfl, jh0, ji0, jj0, jl0, jm0⟩ := open_job (hval 0 26 v0 rfl rfl) h0 (sized_of hsz (j := 0) rfl rfl)
  obtain ⟨a1, rfl, rfl, rfl, w1⟩ := open_int Try.underlying3 (hval 1 3 v1 rfl rfl) h1
  have z1 := bounds_i64 w1
  obtain ⟨a2, rfl, rfl, rfl, w2⟩ := open_int Try.underlying2 (hval 2 2 v2 rfl rfl) h2
  have z2 := bounds_i64 w2
  obtain ⟨a3, rfl, rfl, rfl⟩ := open_bool Try.underlying4 (hval 3 4 v3 rfl rfl) h3
  obtain ⟨gA4, gE4, gC4, rfl, gH4, gl4, gm4, gB4⟩ := open_edges Try.underlying22 (hval 4 22 v4 rfl rfl) h4 (sized_of hsz (j := 4) rfl rfl)
  obtain ⟨gA5, gE5, gC5, rfl, gH5, gl5, gm5, gB5⟩ := open_edges Try.underlying22 (hval 5 22 v5 rfl rfl) h5 (sized_of hsz (j := 5) rfl rfl)
  refine (algosSend_walk W jk0 ja0 jb0 jc0 jd0 jh0 ji0 jj0 jl0 jm0 a1 z1.1 z1.2 a2 z2.1 z2.2 a3 gA4 gE4 gC4 gH4 gl4 gm4 gB4 gA5 gE5 gC5 gH5 gl5 gm5 gB5).mono fun e W' ⟨he, hb⟩ => ?_
  subst he
  exact ⟨_, rfl, post_true hW' rfl rfl Try.underlying4 row_laid (by kernel_rfl) rfl rfl rfl hb⟩

theorem over : Rows.algosSendRow.holds Try.pinned (OpenSpec.ofChange Rows.algosSendSpec) :=
  OpenClaim.holds_of_wide 5 Try.f5 rfl rfl rfl rfl rfl rfl rfl ⟨rfl, rfl, rfl, rfl, rfl⟩ rfl rfl rfl rfl rfl (by kernel_rfl) Try.func5 (by kernel_rfl)
    (of_decide_eq_true (by kernel_rfl)) (by unfold Func.isWrapper; first | (rw [if_pos (by decide +kernel)]; kernel_rfl) | (rw [if_neg (by decide +kernel)]; exact ⟨rfl, rfl⟩))
    (fun os started H enc _ => lifted os started H enc)

/-- the statement -/
theorem proved : Rows.AlgosSendSaid :=
  over
#print axioms proved
end Go.Proofs.Ytihlhkbdgbkafaa.algosSend

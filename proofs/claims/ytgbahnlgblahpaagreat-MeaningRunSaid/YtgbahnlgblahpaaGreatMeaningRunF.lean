/- The statement MeaningRun: for every input the call returns true, and each argument reads afterwards as it did. No condition. -/
import Derived.Test.YtgbahnlgblahpaaGreatRows
import Derived.Test.YtgbahnlgblahpaaGreatProg
import Derived.Lib.Hide
import Derived.WalkSpells
import Derived.WalkMore
import Derived.Test.YtgbahnlgblahpaaGreatMrWw36
set_option linter.unusedVariables false
set_option linter.unusedSimpArgs false
set_option maxRecDepth 100000
set_option maxHeartbeats 16000000
namespace Go.Proofs.YtgbahnlgblahpaaGreat.meaningRun
open Go.ChangeShapes Go.WideShapes Go.ChangeAt Go.RowKit
theorem lifted (os : Os) (started : os.Started) (H : Type) (enc : TypeId × Value → H) :
  ReturnsInHanded {} Tryz.checked os 3 .any (Rows.meaningRunSpec.pre6 enc Tryz.prog Tryz.f3 Rows.meaningRunRow.domain false) (Rows.meaningRunSpec.post enc Tryz.prog Tryz.f3 false true false false) := by
 refine returnsInHanded_of_change_sized (C := Tryz.checked) row_own started (by kernel_rfl) Tryz.func3
  (ChangeSpec.witness6 (enc := enc) (C := Tryz.checked) false ⟨#[], #[.agg (List.toArray (.int .i64 0 :: .slice none 0 0 :: List.nil)), .agg (List.toArray (.int .u8 0 :: .int .i64 0 :: .int .i64 0 :: .int .i64 0 :: .int .i64 0 :: List.nil)), .int .i64 0, .int .i64 0], []⟩ 8 (by kernel_rfl) (by kernel_rfl) (by kernel_rfl) (by kernel_rfl)) ?_
 intro W base args ds gs before hval0 hW hcnd hsz0 _
 have hval : ∀ (j : Nat) t v, Tryz.f3.params[j]? = some t → args[j]? = some v → Value.okWide Tryz.prog W .any base t v := hval0
 have hsz : (DataW.weightsEach Tryz.prog (Tryz.f3.params.toList ++ Rows.meaningRunSpec.plain.varTypes Tryz.prog) (ds ++ gs)).all (· ≤ reachBytes) = true := hsz0
 have hW' := hW
 obtain ⟨p, q, hA0, hV, rfl, hfz, hnd⟩ := hW
 have hA : DataW.TrodAll enc Tryz.prog W 0 (fun _ => true) true Tryz.f3.params.toList args.toList ds p := hA0
 rw [Tryz.params3] at hA hval hsz
 obtain ⟨v0, vs0, d0, ds0, p0, q0, hargs, rfl, rfl, h0, r0⟩ := trodAll_cons hA
 obtain ⟨v1, vs1, d1, ds1, p1, q1, rfl, rfl, rfl, h1, r1⟩ := trodAll_cons r0
 obtain ⟨v2, vs2, d2, ds2, p2, q2, rfl, rfl, rfl, h2, r2⟩ := trodAll_cons r1
 obtain ⟨v3, vs3, d3, ds3, p3, q3, rfl, rfl, rfl, h3, r3⟩ := trodAll_cons r2
 obtain ⟨rfl, rfl, rfl⟩ := trodAll_nil r3
 obtain rfl : args = #[v0, v1, v2, v3] := by cases args; simp_all
 obtain ⟨rfl, rfl⟩ := trodVars_none hV
 obtain ⟨gV0, gA0, gE0, gC0, rfl, gp0, gq0, gH0, gl0, gm0, gB0⟩ := open_graph (hval 0 24 v0 rfl rfl) h0 (sized_of hsz (j := 0) rfl rfl)
 obtain ⟨jk1, ja1, jb1, jc1, jd1, rfl, jh1, ji1, jj1, jl1, jm1⟩ := open_job (hval 1 26 v1 rfl rfl) h1 (sized_of hsz (j := 1) rfl rfl)
 obtain ⟨a2, rfl, rfl, rfl, w2⟩ := open_int Tryz.underlying3 (hval 2 3 v2 rfl rfl) h2
 have z2 := bounds_i64 w2
 obtain ⟨a3, rfl, rfl, rfl, w3⟩ := open_int Tryz.underlying2 (hval 3 2 v3 rfl rfl) h3
 have z3 := bounds_i64 w3
 refine (meaningRun_walk W gV0 gA0 gE0 gC0 gp0 gq0 gH0 gl0 gm0 gB0 jk1 ja1 jb1 jc1 jd1 jh1 ji1 jj1 jl1 jm1 a2 z2.1 z2.2 a3 z3.1 z3.2).mono fun e W' ⟨he, hb⟩ => ?_
 subst he
 exact ⟨_, rfl, post_true hW' rfl rfl Tryz.underlying4 row_laid (by kernel_rfl) rfl rfl rfl hb⟩
theorem over : Rows.meaningRunRow.holds Tryz.pinned (OpenSpec.ofChange Rows.meaningRunSpec) :=
 OpenClaim.holds_of_wide 3 Tryz.f3 rfl rfl rfl rfl rfl rfl rfl ⟨rfl, rfl, rfl, rfl, rfl⟩ rfl rfl rfl rfl rfl (by kernel_rfl) Tryz.func3 (by kernel_rfl)
  (of_decide_eq_true (by kernel_rfl)) (by unfold Func.isWrapper; first | (rw [if_pos (by decide +kernel)]; kernel_rfl) | (rw [if_neg (by decide +kernel)]; exact ⟨rfl, rfl⟩))
  (fun os started H enc _ => lifted os started H enc)
theorem proved : Rows.MeaningRunSaid :=
 over
#print axioms proved
end Go.Proofs.YtgbahnlgblahpaaGreat.meaningRun

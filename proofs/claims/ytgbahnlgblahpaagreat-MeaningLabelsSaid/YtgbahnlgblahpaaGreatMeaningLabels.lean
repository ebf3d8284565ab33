/- The statement MeaningLabels: for every input the call returns true, and each argument reads afterwards as it did. No condition. -/
import Derived.Test.YtgbahnlgblahpaaGreatRows
import Derived.Test.YtgbahnlgblahpaaGreatRow
import Derived.Test.YtgbahnlgblahpaaGreatMlw
import Derived.Test.YtgbahnlgblahpaaGreatOed
namespace Go.Proofs.YtgbahnlgblahpaaGreat.meaningLabels
open Go.ChangeShapes Go.WideShapes Go.ChangeAt Go.RowKit
set_option linter.unusedVariables false

set_option maxRecDepth 100000 in
theorem lifted (os : Os) (started : os.Started) (H : Type) (enc : TypeId × Value → H) :
    ReturnsInHanded {} Tryz.checked os 4 .any (Rows.meaningLabelsSpec.pre6 enc Tryz.prog Tryz.f4 Rows.meaningLabelsRow.domain false) (Rows.meaningLabelsSpec.post enc Tryz.prog Tryz.f4 false true false false) := by
  refine returnsInHanded_of_change_sized (C := Tryz.checked) row_own started (by kernel_rfl) Tryz.func4
    (ChangeSpec.witness6 (enc := enc) (C := Tryz.checked) false ⟨#[], #[.agg (List.toArray (.int .i64 0 :: .slice none 0 0 :: List.nil))], []⟩ 8 (by kernel_rfl) (by kernel_rfl) (by kernel_rfl) (by kernel_rfl)) ?_
  intro W base args ds gs before hval0 hW hcnd hsz0 _
  have hval : ∀ (j : Nat) t v, Tryz.f4.params[j]? = some t → args[j]? = some v → Value.okWide Tryz.prog W .any base t v := hval0
  have hsz : (DataW.weightsEach Tryz.prog (Tryz.f4.params.toList ++ Rows.meaningLabelsSpec.plain.varTypes Tryz.prog) (ds ++ gs)).all (· ≤ reachBytes) = true := hsz0
  have hW' := hW
  obtain ⟨p, q, hA0, hV, rfl, hfz, hnd⟩ := hW
  have hA : DataW.TrodAll enc Tryz.prog W 0 (fun _ => true) true Tryz.f4.params.toList args.toList ds p := hA0
  rw [Tryz.params4] at hA hval hsz
  obtain ⟨v0, vs0, d0, ds0, p0, q0, hargs, rfl, rfl, h0, r0⟩ := trodAll_cons hA
  obtain ⟨rfl, rfl, rfl⟩ := trodAll_nil r0
  obtain rfl : args = #[v0] := by cases args; simp_all
  obtain ⟨rfl, rfl⟩ := trodVars_none hV
  obtain ⟨gV0, gA0, gE0, gC0, rfl, gp0, gq0, gH0, gl0, gm0, gB0⟩ := open_graph (hval 0 24 v0 rfl rfl) h0 (sized_of hsz (j := 0) rfl rfl)
  refine (meaningLabels_walk W gV0 gA0 gE0 gC0 gp0 gq0 gH0 gl0 gm0 gB0).mono fun e W' ⟨he, hb⟩ => ?_
  subst he
  exact ⟨_, rfl, post_true hW' rfl rfl Tryz.underlying4 row_laid (by kernel_rfl) rfl rfl rfl hb⟩

theorem over : Rows.meaningLabelsRow.holds Tryz.pinned (OpenSpec.ofChange Rows.meaningLabelsSpec) :=
  OpenClaim.holds_of_wide 4 Tryz.f4 rfl rfl rfl rfl rfl rfl rfl ⟨rfl, rfl, rfl, rfl, rfl⟩ rfl rfl rfl rfl rfl (by kernel_rfl) Tryz.func4 (by kernel_rfl)
    (of_decide_eq_true (by kernel_rfl)) (by unfold Func.isWrapper; first | (rw [if_pos (by decide +kernel)]; kernel_rfl) | (rw [if_neg (by decide +kernel)]; exact ⟨rfl, rfl⟩))
    (fun os started H enc _ => lifted os started H enc)

/-- the statement -/
theorem proved : Rows.MeaningLabelsSaid :=
  over
#print axioms proved
end Go.Proofs.YtgbahnlgblahpaaGreat.meaningLabels

/- The statement FieldsWalk: for every input the call returns true, and each argument reads afterwards as it did. No condition. -/
import Derived.Test.YtbmaiiflbdggnaaRows
import Derived.Test.YtbmaiiflbdggnaaRow
import Derived.Test.YtbmaiiflbdggnaaFwa
namespace Go.Proofs.Ytbmaiiflbdggnaa.fieldsWalk
open Go.ChangeShapes Go.WideShapes Go.ChangeAt Go.RowKit
set_option linter.unusedVariables false

set_option maxRecDepth 100000 in
theorem lifted (os : Os) (started : os.Started) (H : Type) (enc : TypeId × Value → H) :
    ReturnsInHanded {} Try.checked os 4 .any (Rows.fieldsWalkSpec.pre6 enc Try.prog Try.f4 Rows.fieldsWalkRow.domain false) (Rows.fieldsWalkSpec.post enc Try.prog Try.f4 false true false false) := by
  refine returnsInHanded_of_change_sized (C := Try.checked) row_own started (by kernel_rfl) Try.func4
    (ChangeSpec.witness6 (enc := enc) (C := Try.checked) false ⟨#[], #[.slice none 0 0, .slice none 0 0], []⟩ 8 (by kernel_rfl) (by kernel_rfl) (by kernel_rfl) (by kernel_rfl)) ?_
  intro W base args ds gs before hval0 hW hcnd hsz0 _
  have hval : ∀ (j : Nat) t v, Try.f4.params[j]? = some t → args[j]? = some v → Value.okWide Try.prog W .any base t v := hval0
  have hsz : (DataW.weightsEach Try.prog (Try.f4.params.toList ++ Rows.fieldsWalkSpec.plain.varTypes Try.prog) (ds ++ gs)).all (· ≤ reachBytes) = true := hsz0
  have hW' := hW
  obtain ⟨p, q, hA0, hV, rfl, hfz, hnd⟩ := hW
  have hA : DataW.TrodAll enc Try.prog W 0 (fun _ => true) true Try.f4.params.toList args.toList ds p := hA0
  rw [Try.params4] at hA hval hsz
  obtain ⟨v0, vs0, d0, ds0, p0, q0, hargs, rfl, rfl, h0, r0⟩ := trodAll_cons hA
  obtain ⟨v1, vs1, d1, ds1, p1, q1, rfl, rfl, rfl, h1, r1⟩ := trodAll_cons r0
  obtain ⟨rfl, rfl, rfl⟩ := trodAll_nil r1
  obtain rfl : args = #[v0, v1] := by cases args; simp_all
  obtain ⟨rfl, rfl⟩ := trodVars_none hV
  obtain ⟨A0, b0, c0, rfl, e0, k0, l0⟩ := open_b2 (hval 0 31 v0 rfl rfl) h0 (sized_of hsz (j := 0) rfl rfl)
  obtain ⟨A1, x1, c1, rfl, e1, k1, l1⟩ := open_items (hval 1 22 v1 rfl rfl) h1 (sized_of hsz (j := 1) rfl rfl)
  refine (fieldsWalk_walk W A0 b0 c0 e0 k0 l0 A1 x1 c1 e1 k1 l1).mono fun e W' ⟨he, hb⟩ => ?_
  subst he
  exact ⟨_, rfl, post_true hW' rfl rfl Try.underlying4 row_laid (by kernel_rfl) rfl rfl rfl hb⟩

theorem over : Rows.fieldsWalkRow.holds Try.pinned (OpenSpec.ofChange Rows.fieldsWalkSpec) :=
  OpenClaim.holds_of_wide 4 Try.f4 rfl rfl rfl rfl rfl rfl rfl ⟨rfl, rfl, rfl, rfl, rfl⟩ rfl rfl rfl rfl rfl (by kernel_rfl) Try.func4 (by kernel_rfl)
    (of_decide_eq_true (by kernel_rfl)) (by unfold Func.isWrapper; first | (rw [if_pos (by decide +kernel)]; kernel_rfl) | (rw [if_neg (by decide +kernel)]; exact ⟨rfl, rfl⟩))
    (fun os started H enc _ => lifted os started H enc)

/-- the statement -/
theorem proved : Rows.FieldsWalkSaid :=
  over
#print axioms proved
end Go.Proofs.Ytbmaiiflbdggnaa.fieldsWalk

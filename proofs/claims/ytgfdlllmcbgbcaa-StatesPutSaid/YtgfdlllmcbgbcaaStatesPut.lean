/- The statement StatesPut: for every input the call returns true, and each argument reads afterwards as it did. No condition. -/
import Derived.Test.YtgfdlllmcbgbcaaRows
import Derived.Test.YtgfdlllmcbgbcaaRow
import Derived.Test.YtgfdlllmcbgbcaaOsp
import Derived.Test.YtgfdlllmcbgbcaaSpw
namespace Go.Proofs.Ytgfdlllmcbgbcaa.statesPut
open Go.ChangeShapes Go.WideShapes Go.ChangeAt Go.RowKit
set_option linter.unusedVariables false

set_option maxRecDepth 100000 in
theorem lifted (os : Os) (started : os.Started) (H : Type) (enc : TypeId × Value → H) :
    ReturnsInHanded {} Try.checked os 3 .any (Rows.statesPutSpec.pre6 enc Try.prog Try.f3 Rows.statesPutRow.domain false) (Rows.statesPutSpec.post enc Try.prog Try.f3 false true false false) := by
  refine returnsInHanded_of_change_sized (C := Try.checked) row_own started (by kernel_rfl) Try.func3
    (ChangeSpec.witness6 (enc := enc) (C := Try.checked) false ⟨#[], #[.agg (List.toArray (.int .i64 0 :: .slice none 0 0 :: .slice none 0 0 :: .slice none 0 0 :: .slice none 0 0 :: List.nil))], []⟩ 8 (by kernel_rfl) (by kernel_rfl) (by kernel_rfl) (by kernel_rfl)) ?_
  intro W base args ds gs before hval0 hW hcnd hsz0 _
  have hval : ∀ (j : Nat) t v, Try.f3.params[j]? = some t → args[j]? = some v → Value.okWide Try.prog W .any base t v := hval0
  have hsz : (DataW.weightsEach Try.prog (Try.f3.params.toList ++ Rows.statesPutSpec.plain.varTypes Try.prog) (ds ++ gs)).all (· ≤ reachBytes) = true := hsz0
  have hW' := hW
  obtain ⟨p, q, hA0, hV, rfl, hfz, hnd⟩ := hW
  have hA : DataW.TrodAll enc Try.prog W 0 (fun _ => true) true Try.f3.params.toList args.toList ds p := hA0
  rw [Try.params3] at hA hval hsz
  obtain ⟨v0, vs0, d0, ds0, p0, q0, hargs, rfl, rfl, h0, r0⟩ := trodAll_cons hA
  obtain ⟨rfl, rfl, rfl⟩ := trodAll_nil r0
  obtain rfl : args = #[v0] := by cases args; simp_all
  obtain ⟨rfl, rfl⟩ := trodVars_none hV
  obtain ⟨sp0, sAo0, sAv0, sAc0, sAi0, sno0, snv0, snc0, sni0, sco0, scv0, scc0, sci0, rfl, shl0, shi0, shb0⟩ := open_spart (hval 0 27 v0 rfl rfl) h0 (sized_of hsz (j := 0) rfl rfl)
  refine (statesPut_walk W sp0 sAo0 sAv0 sAc0 sAi0 sno0 snv0 snc0 sni0 sco0 scv0 scc0 sci0 shl0 shi0 shb0).mono fun e W' ⟨he, hb⟩ => ?_
  subst he
  exact ⟨_, rfl, post_true hW' rfl rfl Try.underlying4 row_laid (by kernel_rfl) rfl rfl rfl hb⟩

theorem over : Rows.statesPutRow.holds Try.pinned (OpenSpec.ofChange Rows.statesPutSpec) :=
  OpenClaim.holds_of_wide 3 Try.f3 rfl rfl rfl rfl rfl rfl rfl ⟨rfl, rfl, rfl, rfl, rfl⟩ rfl rfl rfl rfl rfl (by kernel_rfl) Try.func3 (by kernel_rfl)
    (of_decide_eq_true (by kernel_rfl)) (by unfold Func.isWrapper; first | (rw [if_pos (by decide +kernel)]; kernel_rfl) | (rw [if_neg (by decide +kernel)]; exact ⟨rfl, rfl⟩))
    (fun os started H enc _ => lifted os started H enc)

/-- the statement -/
theorem proved : Rows.StatesPutSaid :=
  over
#print axioms proved
end Go.Proofs.Ytgfdlllmcbgbcaa.statesPut

/- The statement StatesBack: for every input the call returns true, and each argument reads afterwards as it did. No condition. -/
import Derived.Test.YtgfdlllmcbgbcaaRows
import Derived.Test.YtgfdlllmcbgbcaaRow
import Derived.Test.YtgfdlllmcbgbcaaOsp
import Derived.Test.YtgfdlllmcbgbcaaSbk
namespace Go.Proofs.Ytgfdlllmcbgbcaa.statesBack
open Go.ChangeShapes Go.WideShapes Go.ChangeAt Go.RowKit
set_option linter.unusedVariables false

set_option maxRecDepth 100000 in
theorem lifted (os : Os) (started : os.Started) (H : Type) (enc : TypeId × Value → H) :
    ReturnsInHanded {} Try.checked os 5 .any (Rows.statesBackSpec.pre6 enc Try.prog Try.f5 Rows.statesBackRow.domain false) (Rows.statesBackSpec.post enc Try.prog Try.f5 false true false false) := by
  refine returnsInHanded_of_change_sized (C := Try.checked) row_own started (by kernel_rfl) Try.func5
    (ChangeSpec.witness6 (enc := enc) (C := Try.checked) false ⟨#[], #[.agg (List.toArray (.int .i64 0 :: .slice none 0 0 :: .slice none 0 0 :: .slice none 0 0 :: .slice none 0 0 :: List.nil)), .slice none 0 0, .int .i64 0], []⟩ 8 (by kernel_rfl) (by kernel_rfl) (by kernel_rfl) (by kernel_rfl)) ?_
  intro W base args ds gs before hval0 hW hcnd hsz0 _
  have hval : ∀ (j : Nat) t v, Try.f5.params[j]? = some t → args[j]? = some v → Value.okWide Try.prog W .any base t v := hval0
  have hsz : (DataW.weightsEach Try.prog (Try.f5.params.toList ++ Rows.statesBackSpec.plain.varTypes Try.prog) (ds ++ gs)).all (· ≤ reachBytes) = true := hsz0
  have hW' := hW
  obtain ⟨p, q, hA0, hV, rfl, hfz, hnd⟩ := hW
  have hA : DataW.TrodAll enc Try.prog W 0 (fun _ => true) true Try.f5.params.toList args.toList ds p := hA0
  rw [Try.params5] at hA hval hsz
  obtain ⟨v0, vs0, d0, ds0, p0, q0, hargs, rfl, rfl, h0, r0⟩ := trodAll_cons hA
  obtain ⟨v1, vs1, d1, ds1, p1, q1, rfl, rfl, rfl, h1, r1⟩ := trodAll_cons r0
  obtain ⟨v2, vs2, d2, ds2, p2, q2, rfl, rfl, rfl, h2, r2⟩ := trodAll_cons r1
  obtain ⟨rfl, rfl, rfl⟩ := trodAll_nil r2
  obtain rfl : args = #[v0, v1, v2] := by cases args; simp_all
  obtain ⟨rfl, rfl⟩ := trodVars_none hV
  obtain ⟨sp0, sAo0, sAv0, sAc0, sAi0, sno0, snv0, snc0, sni0, sco0, scv0, scc0, sci0, rfl, shl0, shi0, shb0⟩ := open_spart (hval 0 27 v0 rfl rfl) h0 (sized_of hsz (j := 0) rfl rfl)
  obtain ⟨A1, b1, c1, rfl, e1, l1⟩ := open_bytes Try.underlying30 Try.underlying5 bytes_cells bytes_bytes (hval 1 30 v1 rfl rfl) h1 (sized_of hsz (j := 1) rfl rfl)
  obtain ⟨a2, rfl, rfl, rfl, w2⟩ := open_int Try.underlying3 (hval 2 3 v2 rfl rfl) h2
  have z2 := bounds_i64 w2
  refine (statesBack_walk W sp0 sAo0 sAv0 sAc0 sAi0 sno0 snv0 snc0 sni0 sco0 scv0 scc0 sci0 shl0 shi0 shb0 A1 b1 c1 e1 (by omega) a2 z2.1 z2.2).mono fun e W' ⟨he, hb⟩ => ?_
  subst he
  exact ⟨_, rfl, post_true hW' rfl rfl Try.underlying4 row_laid (by kernel_rfl) rfl rfl rfl hb⟩

theorem over : Rows.statesBackRow.holds Try.pinned (OpenSpec.ofChange Rows.statesBackSpec) :=
  OpenClaim.holds_of_wide 5 Try.f5 rfl rfl rfl rfl rfl rfl rfl ⟨rfl, rfl, rfl, rfl, rfl⟩ rfl rfl rfl rfl rfl (by kernel_rfl) Try.func5 (by kernel_rfl)
    (of_decide_eq_true (by kernel_rfl)) (by unfold Func.isWrapper; first | (rw [if_pos (by decide +kernel)]; kernel_rfl) | (rw [if_neg (by decide +kernel)]; exact ⟨rfl, rfl⟩))
    (fun os started H enc _ => lifted os started H enc)

/-- the statement -/
theorem proved : Rows.StatesBackSaid :=
  over
#print axioms proved
end Go.Proofs.Ytgfdlllmcbgbcaa.statesBack

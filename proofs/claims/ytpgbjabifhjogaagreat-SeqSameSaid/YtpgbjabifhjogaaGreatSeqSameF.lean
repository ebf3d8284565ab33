/- The statement SeqSame: for every input the call returns true, and each argument reads afterwards as it did. No condition. -/
import Derived.Test.YtpgbjabifhjogaaGreatRows
import Derived.Test.YtpgbjabifhjogaaGreatProg
import Derived.Lib.Hide
import Derived.WalkSpells
import Derived.WalkMore
import Derived.Deep.Strs
import Derived.Test.YtpgbjabifhjogaaGreatSeqSameFw1
import Derived.Test.YtpgbjabifhjogaaGreatSeqSameFw2
import Derived.Test.YtpgbjabifhjogaaGreatSeqSameFw3
import Derived.Test.YtpgbjabifhjogaaGreatSeqSameFw4
import Derived.Test.YtpgbjabifhjogaaGreatSeqSameFw5
import Derived.Test.YtpgbjabifhjogaaGreatSeqSameFw6
import Derived.Test.YtpgbjabifhjogaaGreatSeqSameFw7
import Derived.Test.YtpgbjabifhjogaaGreatSeqSameFw8
import Derived.Test.YtpgbjabifhjogaaGreatSeqSameFw9
import Derived.Test.YtpgbjabifhjogaaGreatSeqSameFw10
import Derived.Test.YtpgbjabifhjogaaGreatSeqSameFw11
import Derived.Test.YtpgbjabifhjogaaGreatSeqSameFw12
import Derived.Test.YtpgbjabifhjogaaGreatSeqSameFw13
import Derived.Test.YtpgbjabifhjogaaGreatSeqSameFw14
import Derived.Test.YtpgbjabifhjogaaGreatSeqSameFw15
import Derived.Test.YtpgbjabifhjogaaGreatSeqSameFw16
import Derived.Test.YtpgbjabifhjogaaGreatSeqSameFw17
import Derived.Test.YtpgbjabifhjogaaGreatSeqSameFw18
import Derived.Test.YtpgbjabifhjogaaGreatSeqSameFw19
import Derived.Test.YtpgbjabifhjogaaGreatSeqSameFw20
import Derived.Test.YtpgbjabifhjogaaGreatSeqSameFw21
import Derived.Test.YtpgbjabifhjogaaGreatSeqSameFw22
import Derived.Test.YtpgbjabifhjogaaGreatSeqSameFw23
import Derived.Test.YtpgbjabifhjogaaGreatSeqSameFw24
import Derived.Test.YtpgbjabifhjogaaGreatSeqSameFw25
import Derived.Test.YtpgbjabifhjogaaGreatSeqSameFw26
import Derived.Test.YtpgbjabifhjogaaGreatSeqSameFw27
import Derived.Test.YtpgbjabifhjogaaGreatSeqSameFw28
import Derived.Test.YtpgbjabifhjogaaGreatSeqSameFw29
import Derived.Test.YtpgbjabifhjogaaGreatSeqSameFw30
import Derived.Test.YtpgbjabifhjogaaGreatSeqSameFw31
import Derived.Test.YtpgbjabifhjogaaGreatSeqSameFw32
namespace Go.Proofs.YtpgbjabifhjogaaGreat.seqSame
open Go.ChangeShapes Go.WideShapes Go.ChangeAt Go.RowKit
set_option linter.unusedVariables false
set_option maxRecDepth 100000 in
theorem lifted (os : Os) (started : os.Started) (H : Type) (enc : TypeId × Value → H) :
    ReturnsInHanded {} Tryz.checked os 7 .any (Rows.seqSameSpec.pre6 enc Tryz.prog Tryz.f7 Rows.seqSameRow.domain false) (Rows.seqSameSpec.post enc Tryz.prog Tryz.f7 false true false false) := by
  refine returnsInHanded_of_change_sized (C := Tryz.checked) row_own started (by kernel_rfl) Tryz.func7
    (ChangeSpec.witness6 (enc := enc) (C := Tryz.checked) false ⟨#[], #[.agg (List.toArray (.int .i64 0 :: .slice none 0 0 :: .slice none 0 0 :: .slice none 0 0 :: .int .i64 0 :: .int .i64 0 :: List.nil)), .agg (List.toArray (.int .i64 0 :: .slice none 0 0 :: .slice none 0 0 :: .slice none 0 0 :: .int .i64 0 :: .int .i64 0 :: List.nil))], []⟩ 8 (by kernel_rfl) (by kernel_rfl) (by kernel_rfl) (by kernel_rfl)) ?_
  intro W base args ds gs before hval0 hW hcnd hsz0 _
  have hval : ∀ (j : Nat) t v, Tryz.f7.params[j]? = some t → args[j]? = some v → Value.okWide Tryz.prog W .any base t v := hval0
  have hsz : (DataW.weightsEach Tryz.prog (Tryz.f7.params.toList ++ Rows.seqSameSpec.plain.varTypes Tryz.prog) (ds ++ gs)).all (· ≤ reachBytes) = true := hsz0
  have hW' := hW
  obtain ⟨p, q, hA0, hV, rfl, hfz, hnd⟩ := hW
  have hA : DataW.TrodAll enc Tryz.prog W 0 (fun _ => true) true Tryz.f7.params.toList args.toList ds p := hA0
  rw [Tryz.params7] at hA hval hsz
  obtain ⟨v0, vs0, d0, ds0, p0, q0, hargs, rfl, rfl, h0, r0⟩ := trodAll_cons hA
  obtain ⟨v1, vs1, d1, ds1, p1, q1, rfl, rfl, rfl, h1, r1⟩ := trodAll_cons r0
  obtain ⟨rfl, rfl, rfl⟩ := trodAll_nil r1
  obtain rfl : args = #[v0, v1] := by cases args; simp_all
  obtain ⟨rfl, rfl⟩ := trodVars_none hV
  obtain ⟨ss0, sm0, so0, sv0, sc0, si0, sA0, sB0, sC0, sx0, sy0, sz0, rfl, ra0, rb0, rc0, rl0⟩ := open_state (hval 0 33 v0 rfl rfl) h0 (sized_of hsz (j := 0) rfl rfl)
  obtain ⟨ss1, sm1, so1, sv1, sc1, si1, sA1, sB1, sC1, sx1, sy1, sz1, rfl, ra1, rb1, rc1, rl1⟩ := open_state (hval 1 33 v1 rfl rfl) h1 (sized_of hsz (j := 1) rfl rfl)
  refine (seqSame_walk W ss0 sm0 so0 sv0 sc0 si0 sA0 sB0 sC0 sx0 sy0 sz0 ra0 rb0 rc0 rl0 ss1 sm1 so1 sv1 sc1 si1 sA1 sB1 sC1 sx1 sy1 sz1 ra1 rb1 rc1 rl1).mono fun e W' ⟨he, hb⟩ => ?_
  subst he
  exact ⟨_, rfl, post_true hW' rfl rfl Tryz.underlying4 row_laid (by kernel_rfl) rfl rfl rfl hb⟩
theorem over : Rows.seqSameRow.holds Tryz.pinned (OpenSpec.ofChange Rows.seqSameSpec) :=
  OpenClaim.holds_of_wide 7 Tryz.f7 rfl rfl rfl rfl rfl rfl rfl ⟨rfl, rfl, rfl, rfl, rfl⟩ rfl rfl rfl rfl rfl (by kernel_rfl) Tryz.func7 (by kernel_rfl)
    (of_decide_eq_true (by kernel_rfl)) (by unfold Func.isWrapper; first | (rw [if_pos (by decide +kernel)]; kernel_rfl) | (rw [if_neg (by decide +kernel)]; exact ⟨rfl, rfl⟩))
    (fun os started H enc _ => lifted os started H enc)
/-- the statement -/
theorem proved : Rows.SeqSameSaid :=
  over
#print axioms proved
end Go.Proofs.YtpgbjabifhjogaaGreat.seqSame

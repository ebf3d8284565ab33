/- Which programs share. -/
import Derived.Test.YtihlhkbdgbkafaaPfx
import Derived.Handy
namespace Go.Proofs.Ytihlhkbdgbkafaa
open Go.RowKit
set_option linter.unusedVariables false
set_option linter.unusedSimpArgs false
theorem missing_one {want : Array (String × TypeId)} {got : Array Method} {x : String} (h : (want.toList.filter fun (name, sig) => !got.any fun m => m.name == name && m.sig == sig).map (·.1) = [x]) : ∃ m, Instr.missingMethod want got = some m := by
  unfold Instr.missingMethod
  rw [h]
  cases hc : x.contains '.' <;> simp [List.partition, List.partition.loop, hc, Instr.least]
theorem sharer_ranks (w : World) : (Instr.typeAssert (.iface 88 (.agg #[])) 61 70 true).run Try.prog w = .ok (.tuple #[.iface 88 (.agg #[]), .bool true]) w := by kernel_rfl
theorem sharer_nil (w : World) : (Instr.typeAssert .nilIface 61 70 true).run Try.prog w = .ok (.tuple #[.nilIface, .bool false]) w := by kernel_rfl
set_option maxRecDepth 100000 in
theorem sharer_labels (w : World) : (Instr.typeAssert (.iface 91 (.agg #[])) 61 70 true).run Try.prog w = .ok (.tuple #[.nilIface, .bool false]) w := by
  obtain ⟨inf, hi⟩ : ∃ inf, Try.prog.info? 91 = some inf := Option.isSome_iff_exists.1 (by kernel_rfl)
  have hm : inf.methods = ((Try.prog.info? 91).map (·.methods)).getD #[] := by rw [hi]; rfl
  obtain ⟨z, hz, hzz⟩ : ∃ z, Try.prog.info? 70 = some z ∧ z.zero = some .nilIface := by
    have h : (Try.prog.info? 70).map (·.zero) = some (some .nilIface) := by kernel_rfl
    obtain ⟨z, hz, h2⟩ := Option.map_eq_some_iff.1 h
    exact ⟨z, hz, h2⟩
  obtain ⟨m, hmm⟩ := missing_one (want := (match Try.prog.underlying 70 with | some (.interface x) => x | _ => #[])) (got := inf.methods) (x := "treadwheel/algos.share") (by rw [hm]; kernel_rfl)
  rw [Try.underlying70] at hmm
  dsimp only at hmm
  unfold Instr.typeAssert
  simp [go_sem, underlying, typeInfo, zeroValue, Try.underlying70, hi, hz, hzz, hmm]
set_option maxRecDepth 100000 in
theorem sharer_ways (w : World) : (Instr.typeAssert (.iface 92 (.agg #[])) 61 70 true).run Try.prog w = .ok (.tuple #[.nilIface, .bool false]) w := by
  obtain ⟨inf, hi⟩ : ∃ inf, Try.prog.info? 92 = some inf := Option.isSome_iff_exists.1 (by kernel_rfl)
  have hm : inf.methods = ((Try.prog.info? 92).map (·.methods)).getD #[] := by rw [hi]; rfl
  obtain ⟨z, hz, hzz⟩ : ∃ z, Try.prog.info? 70 = some z ∧ z.zero = some .nilIface := by
    have h : (Try.prog.info? 70).map (·.zero) = some (some .nilIface) := by kernel_rfl
    obtain ⟨z, hz, h2⟩ := Option.map_eq_some_iff.1 h
    exact ⟨z, hz, h2⟩
  obtain ⟨m, hmm⟩ := missing_one (want := (match Try.prog.underlying 70 with | some (.interface x) => x | _ => #[])) (got := inf.methods) (x := "treadwheel/algos.share") (by rw [hm]; kernel_rfl)
  rw [Try.underlying70] at hmm
  dsimp only at hmm
  unfold Instr.typeAssert
  simp [go_sem, underlying, typeInfo, zeroValue, Try.underlying70, hi, hz, hzz, hmm]
end Go.Proofs.Ytihlhkbdgbkafaa

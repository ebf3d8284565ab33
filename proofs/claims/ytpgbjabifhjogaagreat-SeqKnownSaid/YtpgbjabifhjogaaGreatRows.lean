/-
  No cell of these rows narrows 'for every input' (looked for: loops, veiled, ifaces, maps, wideKeys, modest, calm, conditions, laid).
  DERIVED. THE GIVEN ROWS OF THIS SEAT. 7 by the template 'for every input the law returns true; each argument reads behind the call as it read before'; 0 by the template 'total and deterministic' (their statements: YtpgbjabifhjogaaGreatTotals.lean).
  GIVEN WITH THE SEED: the statements are not yours to turn. If you find one false, say at which input.
  Laid BY PROGRAM, IN A SANDBOX (cutbox-rows.mjs): the forced cells as the released guide's own fill.sh prints them over the translation 6bc646a6ece5c225… (all of the seat's roots in one cut). By AI agents, Wed Nov 11 2026. No macro, syntax, notation, axiom, sorry.
-/
import Derived.Test.YtpgbjabifhjogaaGreatChecked
import GoSem.Claim
import GoSem.ClaimJoined
import GoSem.ClaimMapViews
import Derived.JoinedTies
import Derived.KernelRfl
namespace Go.Proofs.YtpgbjabifhjogaaGreat
/- THE CELL 'sum', in the pinned program and in every row, IS THE sha256 OF THE DUMP (.gsa) THAT YtpgbjabifhjogaaGreatProg.lean LOADS. Nothing in Lean hashes anything: it is a label: what it is worth is what the hold of that sum in a sandbox is worth. -/
noncomputable def Tryz.pinned : Pinned := { name := "ytpgbjabifhjogaagreat", sum := "6bc646a6ece5c2250754c50f4df6adef8f13f1721adcfe459362f0c347f33b52", checked := Tryz.checked }
namespace Rows
def none {H : Type} : Left H := { results := [], args := [] }

/-- 'treadwheellaw12.SeqAt': WHATEVER THE INPUT: true; the input reads as it did. -/
def seqAtSpec : ChangeSpec := { name := "seqAt", fn := fun _ => fun
  | [d1, d2, d3] => { results := [.lit (.bool true)], args := [d1, d2, d3] }
  | _ => none }
def seqAtRow : OpenClaim := { program := "ytpgbjabifhjogaagreat", sum := "6bc646a6ece5c2250754c50f4df6adef8f13f1721adcfe459362f0c347f33b52", func := "treadwheel/treadwheellaw12.SeqAt", spec := "seqAt", unfollowed := true, recurses := true, apart := false }
def SeqAtSaid : Prop := seqAtRow.holds Tryz.pinned (OpenSpec.ofChange seqAtSpec)

/-- ITS FALSE NEIGHBOUR: 'it returns false'. Refute it at one input. -/
def seqAtWrong : ChangeSpec := { name := "seqAt", fn := fun _ => fun
  | [d1, d2, d3] => { results := [.lit (.bool false)], args := [d1, d2, d3] }
  | _ => none }
def SeqAtWrongFalsely : Prop := seqAtRow.holds Tryz.pinned (OpenSpec.ofChange seqAtWrong)

/-- 'treadwheellaw12.SeqStart': WHATEVER THE INPUT: true; the input reads as it did. -/
def seqStartSpec : ChangeSpec := { name := "seqStart", fn := fun _ => fun
  | [d1, d2] => { results := [.lit (.bool true)], args := [d1, d2] }
  | _ => none }
def seqStartRow : OpenClaim := { program := "ytpgbjabifhjogaagreat", sum := "6bc646a6ece5c2250754c50f4df6adef8f13f1721adcfe459362f0c347f33b52", func := "treadwheel/treadwheellaw12.SeqStart", spec := "seqStart", unfollowed := true, recurses := true, apart := false }
def SeqStartSaid : Prop := seqStartRow.holds Tryz.pinned (OpenSpec.ofChange seqStartSpec)

/-- ITS FALSE NEIGHBOUR: 'it returns false'. Refute it at one input. -/
def seqStartWrong : ChangeSpec := { name := "seqStart", fn := fun _ => fun
  | [d1, d2] => { results := [.lit (.bool false)], args := [d1, d2] }
  | _ => none }
def SeqStartWrongFalsely : Prop := seqStartRow.holds Tryz.pinned (OpenSpec.ofChange seqStartWrong)

/-- 'treadwheellaw12.SeqStep': WHATEVER THE INPUT: true; the input reads as it did. -/
def seqStepSpec : ChangeSpec := { name := "seqStep", fn := fun _ => fun
  | [d1, d2, d3] => { results := [.lit (.bool true)], args := [d1, d2, d3] }
  | _ => none }
def seqStepRow : OpenClaim := { program := "ytpgbjabifhjogaagreat", sum := "6bc646a6ece5c2250754c50f4df6adef8f13f1721adcfe459362f0c347f33b52", func := "treadwheel/treadwheellaw12.SeqStep", spec := "seqStep", unfollowed := true, recurses := true, apart := false }
def SeqStepSaid : Prop := seqStepRow.holds Tryz.pinned (OpenSpec.ofChange seqStepSpec)

/-- ITS FALSE NEIGHBOUR: 'it returns false'. Refute it at one input. -/
def seqStepWrong : ChangeSpec := { name := "seqStep", fn := fun _ => fun
  | [d1, d2, d3] => { results := [.lit (.bool false)], args := [d1, d2, d3] }
  | _ => none }
def SeqStepWrongFalsely : Prop := seqStepRow.holds Tryz.pinned (OpenSpec.ofChange seqStepWrong)

/-- 'treadwheellaw12.SeqRun': WHATEVER THE INPUT: true; the input reads as it did. -/
def seqRunSpec : ChangeSpec := { name := "seqRun", fn := fun _ => fun
  | [d1, d2] => { results := [.lit (.bool true)], args := [d1, d2] }
  | _ => none }
def seqRunRow : OpenClaim := { program := "ytpgbjabifhjogaagreat", sum := "6bc646a6ece5c2250754c50f4df6adef8f13f1721adcfe459362f0c347f33b52", func := "treadwheel/treadwheellaw12.SeqRun", spec := "seqRun", unfollowed := true, recurses := true, apart := false }
def SeqRunSaid : Prop := seqRunRow.holds Tryz.pinned (OpenSpec.ofChange seqRunSpec)

/-- ITS FALSE NEIGHBOUR: 'it returns false'. Refute it at one input. -/
def seqRunWrong : ChangeSpec := { name := "seqRun", fn := fun _ => fun
  | [d1, d2] => { results := [.lit (.bool false)], args := [d1, d2] }
  | _ => none }
def SeqRunWrongFalsely : Prop := seqRunRow.holds Tryz.pinned (OpenSpec.ofChange seqRunWrong)

/-- 'treadwheellaw12.SeqSame': WHATEVER THE INPUT: true; the input reads as it did. -/
def seqSameSpec : ChangeSpec := { name := "seqSame", fn := fun _ => fun
  | [d1, d2] => { results := [.lit (.bool true)], args := [d1, d2] }
  | _ => none }
def seqSameRow : OpenClaim := { program := "ytpgbjabifhjogaagreat", sum := "6bc646a6ece5c2250754c50f4df6adef8f13f1721adcfe459362f0c347f33b52", func := "treadwheel/treadwheellaw12.SeqSame", spec := "seqSame", unfollowed := true, recurses := true, apart := false }
def SeqSameSaid : Prop := seqSameRow.holds Tryz.pinned (OpenSpec.ofChange seqSameSpec)

/-- ITS FALSE NEIGHBOUR: 'it returns false'. Refute it at one input. -/
def seqSameWrong : ChangeSpec := { name := "seqSame", fn := fun _ => fun
  | [d1, d2] => { results := [.lit (.bool false)], args := [d1, d2] }
  | _ => none }
def SeqSameWrongFalsely : Prop := seqSameRow.holds Tryz.pinned (OpenSpec.ofChange seqSameWrong)

/-- 'treadwheellaw12.SeqGoes': WHATEVER THE INPUT: true; the input reads as it did. -/
def seqGoesSpec : ChangeSpec := { name := "seqGoes", fn := fun _ => fun
  | [d1, d2] => { results := [.lit (.bool true)], args := [d1, d2] }
  | _ => none }
def seqGoesRow : OpenClaim := { program := "ytpgbjabifhjogaagreat", sum := "6bc646a6ece5c2250754c50f4df6adef8f13f1721adcfe459362f0c347f33b52", func := "treadwheel/treadwheellaw12.SeqGoes", spec := "seqGoes", unfollowed := true, recurses := true, apart := false }
def SeqGoesSaid : Prop := seqGoesRow.holds Tryz.pinned (OpenSpec.ofChange seqGoesSpec)

/-- ITS FALSE NEIGHBOUR: 'it returns false'. Refute it at one input. -/
def seqGoesWrong : ChangeSpec := { name := "seqGoes", fn := fun _ => fun
  | [d1, d2] => { results := [.lit (.bool false)], args := [d1, d2] }
  | _ => none }
def SeqGoesWrongFalsely : Prop := seqGoesRow.holds Tryz.pinned (OpenSpec.ofChange seqGoesWrong)

/-- 'treadwheellaw12.SeqKnown': WHATEVER THE INPUT: true; the input reads as it did. -/
def seqKnownSpec : ChangeSpec := { name := "seqKnown", fn := fun _ => fun
  | [] => { results := [.lit (.bool true)], args := [] }
  | _ => none }
def seqKnownRow : OpenClaim := { program := "ytpgbjabifhjogaagreat", sum := "6bc646a6ece5c2250754c50f4df6adef8f13f1721adcfe459362f0c347f33b52", func := "treadwheel/treadwheellaw12.SeqKnown", spec := "seqKnown", unfollowed := true, recurses := true, apart := false }
def SeqKnownSaid : Prop := seqKnownRow.holds Tryz.pinned (OpenSpec.ofChange seqKnownSpec)

/-- ITS FALSE NEIGHBOUR: 'it returns false'. Refute it at one input. -/
def seqKnownWrong : ChangeSpec := { name := "seqKnown", fn := fun _ => fun
  | [] => { results := [.lit (.bool false)], args := [] }
  | _ => none }
def SeqKnownWrongFalsely : Prop := seqKnownRow.holds Tryz.pinned (OpenSpec.ofChange seqKnownWrong)

/- THE SECOND FORM. 'bulk': how many values and letters a reading holds, each counted each time it is reached (what is shared counts as often as it is met; a slice's spare places count too). A statement '..UptoSaid' is the law's where the arguments, and the package variables that the reading takes, are together of bulk at most 1048576: NARROWER than '..Said'. Prove '..Said' where nothing that the law and all that it calls make is longer than what came in: it says more and counts as full. Else prove '..UptoSaid'. A law counts once. -/
mutual
def uptoBulk {H : Type} : DataW H → Nat
  | .lit (.string bytes) => bytes.length + 1
  | .lit _ => 1
  | .nil => 1
  | .ptr d => uptoBulk d + 1
  | .slice elems spare => uptoBulkAll elems + uptoBulkAll spare + 1
  | .agg parts => uptoBulkAll parts + 1
  | .iface _ d => uptoBulk d + 1
  | .map entries => uptoBulkEntries entries + 1
  | .held _ => 1
def uptoBulkAll {H : Type} : List (DataW H) → Nat
  | [] => 0
  | d :: r => uptoBulk d + uptoBulkAll r
def uptoBulkEntries {H : Type} : List (Lit × DataW H) → Nat
  | [] => 0
  | x :: r => uptoBulkEntry x + uptoBulkEntries r
def uptoBulkEntry {H : Type} : Lit × DataW H → Nat
  | (.string bytes, d) => bytes.length + uptoBulk d + 1
  | (_, d) => uptoBulk d + 1
 end
def uptoSmall : (H : Type) → List (DataW H) → Bool := fun _ ds => decide (uptoBulkAll ds ≤ 1048576)
def OpenSpec.upto (s : _root_.Go.ChangeSpec) : _root_.Go.OpenSpec := { _root_.Go.OpenSpec.ofChange s with cond := some uptoSmall }

/-- 'treadwheellaw12.SeqAt', WHERE WHAT IT READS IS OF BULK AT MOST 1048576: true; the input reads as it did. -/
def seqAtUptoRow : OpenClaim := { program := "ytpgbjabifhjogaagreat", sum := "6bc646a6ece5c2250754c50f4df6adef8f13f1721adcfe459362f0c347f33b52", func := "treadwheel/treadwheellaw12.SeqAt", spec := "seqAt", unfollowed := true, recurses := true, apart := false, narrowed := true }
def SeqAtUptoSaid : Prop := seqAtUptoRow.holds Tryz.pinned (OpenSpec.upto seqAtSpec)

/-- 'treadwheellaw12.SeqStart', WHERE WHAT IT READS IS OF BULK AT MOST 1048576: true; the input reads as it did. -/
def seqStartUptoRow : OpenClaim := { program := "ytpgbjabifhjogaagreat", sum := "6bc646a6ece5c2250754c50f4df6adef8f13f1721adcfe459362f0c347f33b52", func := "treadwheel/treadwheellaw12.SeqStart", spec := "seqStart", unfollowed := true, recurses := true, apart := false, narrowed := true }
def SeqStartUptoSaid : Prop := seqStartUptoRow.holds Tryz.pinned (OpenSpec.upto seqStartSpec)

/-- 'treadwheellaw12.SeqStep', WHERE WHAT IT READS IS OF BULK AT MOST 1048576: true; the input reads as it did. -/
def seqStepUptoRow : OpenClaim := { program := "ytpgbjabifhjogaagreat", sum := "6bc646a6ece5c2250754c50f4df6adef8f13f1721adcfe459362f0c347f33b52", func := "treadwheel/treadwheellaw12.SeqStep", spec := "seqStep", unfollowed := true, recurses := true, apart := false, narrowed := true }
def SeqStepUptoSaid : Prop := seqStepUptoRow.holds Tryz.pinned (OpenSpec.upto seqStepSpec)

/-- 'treadwheellaw12.SeqRun', WHERE WHAT IT READS IS OF BULK AT MOST 1048576: true; the input reads as it did. -/
def seqRunUptoRow : OpenClaim := { program := "ytpgbjabifhjogaagreat", sum := "6bc646a6ece5c2250754c50f4df6adef8f13f1721adcfe459362f0c347f33b52", func := "treadwheel/treadwheellaw12.SeqRun", spec := "seqRun", unfollowed := true, recurses := true, apart := false, narrowed := true }
def SeqRunUptoSaid : Prop := seqRunUptoRow.holds Tryz.pinned (OpenSpec.upto seqRunSpec)

/-- 'treadwheellaw12.SeqSame', WHERE WHAT IT READS IS OF BULK AT MOST 1048576: true; the input reads as it did. -/
def seqSameUptoRow : OpenClaim := { program := "ytpgbjabifhjogaagreat", sum := "6bc646a6ece5c2250754c50f4df6adef8f13f1721adcfe459362f0c347f33b52", func := "treadwheel/treadwheellaw12.SeqSame", spec := "seqSame", unfollowed := true, recurses := true, apart := false, narrowed := true }
def SeqSameUptoSaid : Prop := seqSameUptoRow.holds Tryz.pinned (OpenSpec.upto seqSameSpec)

/-- 'treadwheellaw12.SeqGoes', WHERE WHAT IT READS IS OF BULK AT MOST 1048576: true; the input reads as it did. -/
def seqGoesUptoRow : OpenClaim := { program := "ytpgbjabifhjogaagreat", sum := "6bc646a6ece5c2250754c50f4df6adef8f13f1721adcfe459362f0c347f33b52", func := "treadwheel/treadwheellaw12.SeqGoes", spec := "seqGoes", unfollowed := true, recurses := true, apart := false, narrowed := true }
def SeqGoesUptoSaid : Prop := seqGoesUptoRow.holds Tryz.pinned (OpenSpec.upto seqGoesSpec)

/-- 'treadwheellaw12.SeqKnown', WHERE WHAT IT READS IS OF BULK AT MOST 1048576: true; the input reads as it did. -/
def seqKnownUptoRow : OpenClaim := { program := "ytpgbjabifhjogaagreat", sum := "6bc646a6ece5c2250754c50f4df6adef8f13f1721adcfe459362f0c347f33b52", func := "treadwheel/treadwheellaw12.SeqKnown", spec := "seqKnown", unfollowed := true, recurses := true, apart := false, narrowed := true }
def SeqKnownUptoSaid : Prop := seqKnownUptoRow.holds Tryz.pinned (OpenSpec.upto seqKnownSpec)

end Rows
end Go.Proofs.YtpgbjabifhjogaaGreat

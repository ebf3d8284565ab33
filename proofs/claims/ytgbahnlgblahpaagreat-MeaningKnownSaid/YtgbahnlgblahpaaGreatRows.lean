/-
  No cell of these rows narrows 'for every input' (looked for: loops, veiled, ifaces, maps, wideKeys, modest, calm, conditions, laid).
  DERIVED. THE GIVEN ROWS OF THIS SEAT. 4 by the template 'for every input the law returns true; each argument reads behind the call as it read before'; 0 by the template 'total and deterministic' (their statements: YtgbahnlgblahpaaGreatTotals.lean).
  GIVEN WITH THE SEED: the statements are not yours to turn. If you find one false, say at which input.
  Laid BY PROGRAM, IN A SANDBOX (cutbox-rows.mjs): the forced cells as the released guide's own fill.sh prints them over the translation 74629c5f1b3f4222… (all of the seat's roots in one cut). By AI agents, Wed Nov 11 2026. No macro, syntax, notation, axiom, sorry.
-/
import Derived.Test.YtgbahnlgblahpaaGreatChecked
import GoSem.Claim
import GoSem.ClaimJoined
import GoSem.ClaimMapViews
import Derived.JoinedTies
import Derived.KernelRfl
namespace Go.Proofs.YtgbahnlgblahpaaGreat
/- THE CELL 'sum', in the pinned program and in every row, IS THE sha256 OF THE DUMP (.gsa) THAT YtgbahnlgblahpaaGreatProg.lean LOADS. Nothing in Lean hashes anything: it is a label: what it is worth is what the hold of that sum in a sandbox is worth. -/
noncomputable def Tryz.pinned : Pinned := { name := "ytgbahnlgblahpaagreat", sum := "74629c5f1b3f4222ba31eeeef39221765f02554d7a0296d66da458990e7280b9", checked := Tryz.checked }
namespace Rows
def none {H : Type} : Left H := { results := [], args := [] }

/-- 'treadwheellaw13.MeaningRun': WHATEVER THE INPUT: true; the input reads as it did. -/
def meaningRunSpec : ChangeSpec := { name := "meaningRun", fn := fun _ => fun
  | [d1, d2, d3, d4] => { results := [.lit (.bool true)], args := [d1, d2, d3, d4] }
  | _ => none }
def meaningRunRow : OpenClaim := { program := "ytgbahnlgblahpaagreat", sum := "74629c5f1b3f4222ba31eeeef39221765f02554d7a0296d66da458990e7280b9", func := "treadwheel/treadwheellaw13.MeaningRun", spec := "meaningRun", unfollowed := true, recurses := true, apart := false }
def MeaningRunSaid : Prop := meaningRunRow.holds Tryz.pinned (OpenSpec.ofChange meaningRunSpec)

/-- ITS FALSE NEIGHBOUR: 'it returns false'. Refute it at one input. -/
def meaningRunWrong : ChangeSpec := { name := "meaningRun", fn := fun _ => fun
  | [d1, d2, d3, d4] => { results := [.lit (.bool false)], args := [d1, d2, d3, d4] }
  | _ => none }
def MeaningRunWrongFalsely : Prop := meaningRunRow.holds Tryz.pinned (OpenSpec.ofChange meaningRunWrong)

/-- 'treadwheellaw13.MeaningLabels': WHATEVER THE INPUT: true; the input reads as it did. -/
def meaningLabelsSpec : ChangeSpec := { name := "meaningLabels", fn := fun _ => fun
  | [d] => { results := [.lit (.bool true)], args := [d] }
  | _ => none }
def meaningLabelsRow : OpenClaim := { program := "ytgbahnlgblahpaagreat", sum := "74629c5f1b3f4222ba31eeeef39221765f02554d7a0296d66da458990e7280b9", func := "treadwheel/treadwheellaw13.MeaningLabels", spec := "meaningLabels", unfollowed := true, recurses := true, apart := false }
def MeaningLabelsSaid : Prop := meaningLabelsRow.holds Tryz.pinned (OpenSpec.ofChange meaningLabelsSpec)

/-- ITS FALSE NEIGHBOUR: 'it returns false'. Refute it at one input. -/
def meaningLabelsWrong : ChangeSpec := { name := "meaningLabels", fn := fun _ => fun
  | [d] => { results := [.lit (.bool false)], args := [d] }
  | _ => none }
def MeaningLabelsWrongFalsely : Prop := meaningLabelsRow.holds Tryz.pinned (OpenSpec.ofChange meaningLabelsWrong)

/-- 'treadwheellaw13.MeaningDistances': WHATEVER THE INPUT: true; the input reads as it did. -/
def meaningDistancesSpec : ChangeSpec := { name := "meaningDistances", fn := fun _ => fun
  | [d1, d2] => { results := [.lit (.bool true)], args := [d1, d2] }
  | _ => none }
def meaningDistancesRow : OpenClaim := { program := "ytgbahnlgblahpaagreat", sum := "74629c5f1b3f4222ba31eeeef39221765f02554d7a0296d66da458990e7280b9", func := "treadwheel/treadwheellaw13.MeaningDistances", spec := "meaningDistances", unfollowed := true, recurses := true, apart := false }
def MeaningDistancesSaid : Prop := meaningDistancesRow.holds Tryz.pinned (OpenSpec.ofChange meaningDistancesSpec)

/-- ITS FALSE NEIGHBOUR: 'it returns false'. Refute it at one input. -/
def meaningDistancesWrong : ChangeSpec := { name := "meaningDistances", fn := fun _ => fun
  | [d1, d2] => { results := [.lit (.bool false)], args := [d1, d2] }
  | _ => none }
def MeaningDistancesWrongFalsely : Prop := meaningDistancesRow.holds Tryz.pinned (OpenSpec.ofChange meaningDistancesWrong)

/-- 'treadwheellaw13.MeaningKnown': WHATEVER THE INPUT: true; the input reads as it did. -/
def meaningKnownSpec : ChangeSpec := { name := "meaningKnown", fn := fun _ => fun
  | [] => { results := [.lit (.bool true)], args := [] }
  | _ => none }
def meaningKnownRow : OpenClaim := { program := "ytgbahnlgblahpaagreat", sum := "74629c5f1b3f4222ba31eeeef39221765f02554d7a0296d66da458990e7280b9", func := "treadwheel/treadwheellaw13.MeaningKnown", spec := "meaningKnown", unfollowed := true, recurses := true, apart := false }
def MeaningKnownSaid : Prop := meaningKnownRow.holds Tryz.pinned (OpenSpec.ofChange meaningKnownSpec)

/-- ITS FALSE NEIGHBOUR: 'it returns false'. Refute it at one input. -/
def meaningKnownWrong : ChangeSpec := { name := "meaningKnown", fn := fun _ => fun
  | [] => { results := [.lit (.bool false)], args := [] }
  | _ => none }
def MeaningKnownWrongFalsely : Prop := meaningKnownRow.holds Tryz.pinned (OpenSpec.ofChange meaningKnownWrong)

/- THE SECOND FORM. 'bulk': how many values and letters a reading holds, each counted each time it is reached (what is shared counts as often as it is met; a slice's spare places count too). A statement '..UptoSaid' is the law's where the arguments, and the package variables that the reading takes, are together of bulk at most 1048576: NARROWER than '..Said'. Prove '..Said' where nothing that the law and all that it calls make is longer than what came in: it says more and counts as full. Else prove '..UptoSaid'. A law counts once. -/
mutual
def uptoBulk {H : Type} : DataW H → Nat
  | .lit (.string bytes) => bytes.length + 1
  | .lit _ => 1
  | .nil => 1
  | .ptr d => uptoBulk d + 1
  | .slice elems spare => uptoBulkAll elems + uptoBulkAll spare + 1
  | .agg parts => uptoBulkAll parts + 1
  | .iface _ d => uptoBulk d + 1
  | .map entries => uptoBulkEntries entries + 1
  | .held _ => 1
def uptoBulkAll {H : Type} : List (DataW H) → Nat
  | [] => 0
  | d :: r => uptoBulk d + uptoBulkAll r
def uptoBulkEntries {H : Type} : List (Lit × DataW H) → Nat
  | [] => 0
  | x :: r => uptoBulkEntry x + uptoBulkEntries r
def uptoBulkEntry {H : Type} : Lit × DataW H → Nat
  | (.string bytes, d) => bytes.length + uptoBulk d + 1
  | (_, d) => uptoBulk d + 1
 end
def uptoSmall : (H : Type) → List (DataW H) → Bool := fun _ ds => decide (uptoBulkAll ds ≤ 1048576)
def OpenSpec.upto (s : _root_.Go.ChangeSpec) : _root_.Go.OpenSpec := { _root_.Go.OpenSpec.ofChange s with cond := some uptoSmall }

/-- 'treadwheellaw13.MeaningRun', WHERE WHAT IT READS IS OF BULK AT MOST 1048576: true; the input reads as it did. -/
def meaningRunUptoRow : OpenClaim := { program := "ytgbahnlgblahpaagreat", sum := "74629c5f1b3f4222ba31eeeef39221765f02554d7a0296d66da458990e7280b9", func := "treadwheel/treadwheellaw13.MeaningRun", spec := "meaningRun", unfollowed := true, recurses := true, apart := false, narrowed := true }
def MeaningRunUptoSaid : Prop := meaningRunUptoRow.holds Tryz.pinned (OpenSpec.upto meaningRunSpec)

/-- 'treadwheellaw13.MeaningLabels', WHERE WHAT IT READS IS OF BULK AT MOST 1048576: true; the input reads as it did. -/
def meaningLabelsUptoRow : OpenClaim := { program := "ytgbahnlgblahpaagreat", sum := "74629c5f1b3f4222ba31eeeef39221765f02554d7a0296d66da458990e7280b9", func := "treadwheel/treadwheellaw13.MeaningLabels", spec := "meaningLabels", unfollowed := true, recurses := true, apart := false, narrowed := true }
def MeaningLabelsUptoSaid : Prop := meaningLabelsUptoRow.holds Tryz.pinned (OpenSpec.upto meaningLabelsSpec)

/-- 'treadwheellaw13.MeaningDistances', WHERE WHAT IT READS IS OF BULK AT MOST 1048576: true; the input reads as it did. -/
def meaningDistancesUptoRow : OpenClaim := { program := "ytgbahnlgblahpaagreat", sum := "74629c5f1b3f4222ba31eeeef39221765f02554d7a0296d66da458990e7280b9", func := "treadwheel/treadwheellaw13.MeaningDistances", spec := "meaningDistances", unfollowed := true, recurses := true, apart := false, narrowed := true }
def MeaningDistancesUptoSaid : Prop := meaningDistancesUptoRow.holds Tryz.pinned (OpenSpec.upto meaningDistancesSpec)

/-- 'treadwheellaw13.MeaningKnown', WHERE WHAT IT READS IS OF BULK AT MOST 1048576: true; the input reads as it did. -/
def meaningKnownUptoRow : OpenClaim := { program := "ytgbahnlgblahpaagreat", sum := "74629c5f1b3f4222ba31eeeef39221765f02554d7a0296d66da458990e7280b9", func := "treadwheel/treadwheellaw13.MeaningKnown", spec := "meaningKnown", unfollowed := true, recurses := true, apart := false, narrowed := true }
def MeaningKnownUptoSaid : Prop := meaningKnownUptoRow.holds Tryz.pinned (OpenSpec.upto meaningKnownSpec)

end Rows
end Go.Proofs.YtgbahnlgblahpaaGreat

/-
  No cell of these rows narrows 'for every input' (looked for: loops, veiled, ifaces, maps, wideKeys, modest, calm, conditions, laid).
  DERIVED. THE GIVEN ROWS OF THIS SEAT. 5 by the template 'for every input the law returns true; each argument reads behind the call as it read before'; 0 by the template 'total and deterministic' (their statements: YtmlpcfeadacoeaaTotals.lean).
  GIVEN WITH THE SEED: the statements are not yours to turn. If you find one false, say at which input.
  Laid BY PROGRAM, IN A SANDBOX (cutbox-rows.mjs): the forced cells as the released guide's own fill.sh prints them over the translation e691fb0b27305172… (all of the seat's roots in one cut). By AI agents, Wed Nov 11 2026. No macro, syntax, notation, axiom, sorry.
-/
import Derived.Test.YtmlpcfeadacoeaaChecked
import GoSem.Claim
import GoSem.ClaimJoined
import GoSem.ClaimMapViews
import Derived.JoinedTies
import Derived.KernelRfl
namespace Go.Proofs.Ytmlpcfeadacoeaa
/- THE CELL 'sum', in the pinned program and in every row, IS THE sha256 OF THE DUMP (.gsa) THAT YtmlpcfeadacoeaaProg.lean LOADS. Nothing in Lean hashes anything: it is a label: what it is worth is what the hold of that sum in a sandbox is worth. -/
noncomputable def Try.pinned : Pinned := { name := "ytmlpcfeadacoeaa", sum := "e691fb0b2730517265bc52aeefc5493f9e547d2c9e924bbf05e2d519acfe56e0", checked := Try.checked }
namespace Rows
def none {H : Type} : Left H := { results := [], args := [] }

/-- 'treadwheellaw09.PathsGive': WHATEVER THE INPUT: true; the input reads as it did. -/
def pathsGiveSpec : ChangeSpec := { name := "pathsGive", fn := fun _ => fun
  | [d1, d2, d3, d4] => { results := [.lit (.bool true)], args := [d1, d2, d3, d4] }
  | _ => none }
def pathsGiveRow : OpenClaim := { program := "ytmlpcfeadacoeaa", sum := "e691fb0b2730517265bc52aeefc5493f9e547d2c9e924bbf05e2d519acfe56e0", func := "treadwheel/treadwheellaw09.PathsGive", spec := "pathsGive", apart := false }
def PathsGiveSaid : Prop := pathsGiveRow.holds Try.pinned (OpenSpec.ofChange pathsGiveSpec)

/-- ITS FALSE NEIGHBOUR: 'it returns false'. Refute it at one input. -/
def pathsGiveWrong : ChangeSpec := { name := "pathsGive", fn := fun _ => fun
  | [d1, d2, d3, d4] => { results := [.lit (.bool false)], args := [d1, d2, d3, d4] }
  | _ => none }
def PathsGiveWrongFalsely : Prop := pathsGiveRow.holds Try.pinned (OpenSpec.ofChange pathsGiveWrong)

/-- 'treadwheellaw09.PathsTake': WHATEVER THE INPUT: true; the input reads as it did. -/
def pathsTakeSpec : ChangeSpec := { name := "pathsTake", fn := fun _ => fun
  | [d1, d2] => { results := [.lit (.bool true)], args := [d1, d2] }
  | _ => none }
def pathsTakeRow : OpenClaim := { program := "ytmlpcfeadacoeaa", sum := "e691fb0b2730517265bc52aeefc5493f9e547d2c9e924bbf05e2d519acfe56e0", func := "treadwheel/treadwheellaw09.PathsTake", spec := "pathsTake", apart := false }
def PathsTakeSaid : Prop := pathsTakeRow.holds Try.pinned (OpenSpec.ofChange pathsTakeSpec)

/-- ITS FALSE NEIGHBOUR: 'it returns false'. Refute it at one input. -/
def pathsTakeWrong : ChangeSpec := { name := "pathsTake", fn := fun _ => fun
  | [d1, d2] => { results := [.lit (.bool false)], args := [d1, d2] }
  | _ => none }
def PathsTakeWrongFalsely : Prop := pathsTakeRow.holds Try.pinned (OpenSpec.ofChange pathsTakeWrong)

/-- 'treadwheellaw09.PathsTight': WHATEVER THE INPUT: true; the input reads as it did. -/
def pathsTightSpec : ChangeSpec := { name := "pathsTight", fn := fun _ => fun
  | [d1, d2, d3] => { results := [.lit (.bool true)], args := [d1, d2, d3] }
  | _ => none }
def pathsTightRow : OpenClaim := { program := "ytmlpcfeadacoeaa", sum := "e691fb0b2730517265bc52aeefc5493f9e547d2c9e924bbf05e2d519acfe56e0", func := "treadwheel/treadwheellaw09.PathsTight", spec := "pathsTight", apart := false }
def PathsTightSaid : Prop := pathsTightRow.holds Try.pinned (OpenSpec.ofChange pathsTightSpec)

/-- ITS FALSE NEIGHBOUR: 'it returns false'. Refute it at one input. -/
def pathsTightWrong : ChangeSpec := { name := "pathsTight", fn := fun _ => fun
  | [d1, d2, d3] => { results := [.lit (.bool false)], args := [d1, d2, d3] }
  | _ => none }
def PathsTightWrongFalsely : Prop := pathsTightRow.holds Try.pinned (OpenSpec.ofChange pathsTightWrong)

/-- 'treadwheellaw09.PathsOne': WHATEVER THE INPUT: true; the input reads as it did. -/
def pathsOneSpec : ChangeSpec := { name := "pathsOne", fn := fun _ => fun
  | [d1, d2, d3, d4] => { results := [.lit (.bool true)], args := [d1, d2, d3, d4] }
  | _ => none }
def pathsOneRow : OpenClaim := { program := "ytmlpcfeadacoeaa", sum := "e691fb0b2730517265bc52aeefc5493f9e547d2c9e924bbf05e2d519acfe56e0", func := "treadwheel/treadwheellaw09.PathsOne", spec := "pathsOne", apart := false }
def PathsOneSaid : Prop := pathsOneRow.holds Try.pinned (OpenSpec.ofChange pathsOneSpec)

/-- ITS FALSE NEIGHBOUR: 'it returns false'. Refute it at one input. -/
def pathsOneWrong : ChangeSpec := { name := "pathsOne", fn := fun _ => fun
  | [d1, d2, d3, d4] => { results := [.lit (.bool false)], args := [d1, d2, d3, d4] }
  | _ => none }
def PathsOneWrongFalsely : Prop := pathsOneRow.holds Try.pinned (OpenSpec.ofChange pathsOneWrong)

/-- 'treadwheellaw09.PathsKnown': WHATEVER THE INPUT: true; the input reads as it did. -/
def pathsKnownSpec : ChangeSpec := { name := "pathsKnown", fn := fun _ => fun
  | [] => { results := [.lit (.bool true)], args := [] }
  | _ => none }
def pathsKnownRow : OpenClaim := { program := "ytmlpcfeadacoeaa", sum := "e691fb0b2730517265bc52aeefc5493f9e547d2c9e924bbf05e2d519acfe56e0", func := "treadwheel/treadwheellaw09.PathsKnown", spec := "pathsKnown", apart := false }
def PathsKnownSaid : Prop := pathsKnownRow.holds Try.pinned (OpenSpec.ofChange pathsKnownSpec)

/-- ITS FALSE NEIGHBOUR: 'it returns false'. Refute it at one input. -/
def pathsKnownWrong : ChangeSpec := { name := "pathsKnown", fn := fun _ => fun
  | [] => { results := [.lit (.bool false)], args := [] }
  | _ => none }
def PathsKnownWrongFalsely : Prop := pathsKnownRow.holds Try.pinned (OpenSpec.ofChange pathsKnownWrong)

/- THE SECOND FORM. 'bulk': how many values and letters a reading holds, each counted each time it is reached (what is shared counts as often as it is met; a slice's spare places count too). A statement '..UptoSaid' is the law's where the arguments, and the package variables that the reading takes, are together of bulk at most 1048576: NARROWER than '..Said'. Prove '..Said' where nothing that the law and all that it calls make is longer than what came in: it says more and counts as full. Else prove '..UptoSaid'. A law counts once. -/
mutual
def uptoBulk {H : Type} : DataW H → Nat
  | .lit (.string bytes) => bytes.length + 1
  | .lit _ => 1
  | .nil => 1
  | .ptr d => uptoBulk d + 1
  | .slice elems spare => uptoBulkAll elems + uptoBulkAll spare + 1
  | .agg parts => uptoBulkAll parts + 1
  | .iface _ d => uptoBulk d + 1
  | .map entries => uptoBulkEntries entries + 1
  | .held _ => 1
def uptoBulkAll {H : Type} : List (DataW H) → Nat
  | [] => 0
  | d :: r => uptoBulk d + uptoBulkAll r
def uptoBulkEntries {H : Type} : List (Lit × DataW H) → Nat
  | [] => 0
  | x :: r => uptoBulkEntry x + uptoBulkEntries r
def uptoBulkEntry {H : Type} : Lit × DataW H → Nat
  | (.string bytes, d) => bytes.length + uptoBulk d + 1
  | (_, d) => uptoBulk d + 1
 end
def uptoSmall : (H : Type) → List (DataW H) → Bool := fun _ ds => decide (uptoBulkAll ds ≤ 1048576)
def OpenSpec.upto (s : _root_.Go.ChangeSpec) : _root_.Go.OpenSpec := { _root_.Go.OpenSpec.ofChange s with cond := some uptoSmall }

/-- 'treadwheellaw09.PathsGive', WHERE WHAT IT READS IS OF BULK AT MOST 1048576: true; the input reads as it did. -/
def pathsGiveUptoRow : OpenClaim := { program := "ytmlpcfeadacoeaa", sum := "e691fb0b2730517265bc52aeefc5493f9e547d2c9e924bbf05e2d519acfe56e0", func := "treadwheel/treadwheellaw09.PathsGive", spec := "pathsGive", apart := false, narrowed := true }
def PathsGiveUptoSaid : Prop := pathsGiveUptoRow.holds Try.pinned (OpenSpec.upto pathsGiveSpec)

/-- 'treadwheellaw09.PathsTake', WHERE WHAT IT READS IS OF BULK AT MOST 1048576: true; the input reads as it did. -/
def pathsTakeUptoRow : OpenClaim := { program := "ytmlpcfeadacoeaa", sum := "e691fb0b2730517265bc52aeefc5493f9e547d2c9e924bbf05e2d519acfe56e0", func := "treadwheel/treadwheellaw09.PathsTake", spec := "pathsTake", apart := false, narrowed := true }
def PathsTakeUptoSaid : Prop := pathsTakeUptoRow.holds Try.pinned (OpenSpec.upto pathsTakeSpec)

/-- 'treadwheellaw09.PathsTight', WHERE WHAT IT READS IS OF BULK AT MOST 1048576: true; the input reads as it did. -/
def pathsTightUptoRow : OpenClaim := { program := "ytmlpcfeadacoeaa", sum := "e691fb0b2730517265bc52aeefc5493f9e547d2c9e924bbf05e2d519acfe56e0", func := "treadwheel/treadwheellaw09.PathsTight", spec := "pathsTight", apart := false, narrowed := true }
def PathsTightUptoSaid : Prop := pathsTightUptoRow.holds Try.pinned (OpenSpec.upto pathsTightSpec)

/-- 'treadwheellaw09.PathsOne', WHERE WHAT IT READS IS OF BULK AT MOST 1048576: true; the input reads as it did. -/
def pathsOneUptoRow : OpenClaim := { program := "ytmlpcfeadacoeaa", sum := "e691fb0b2730517265bc52aeefc5493f9e547d2c9e924bbf05e2d519acfe56e0", func := "treadwheel/treadwheellaw09.PathsOne", spec := "pathsOne", apart := false, narrowed := true }
def PathsOneUptoSaid : Prop := pathsOneUptoRow.holds Try.pinned (OpenSpec.upto pathsOneSpec)

/-- 'treadwheellaw09.PathsKnown', WHERE WHAT IT READS IS OF BULK AT MOST 1048576: true; the input reads as it did. -/
def pathsKnownUptoRow : OpenClaim := { program := "ytmlpcfeadacoeaa", sum := "e691fb0b2730517265bc52aeefc5493f9e547d2c9e924bbf05e2d519acfe56e0", func := "treadwheel/treadwheellaw09.PathsKnown", spec := "pathsKnown", apart := false, narrowed := true }
def PathsKnownUptoSaid : Prop := pathsKnownUptoRow.holds Try.pinned (OpenSpec.upto pathsKnownSpec)

end Rows
end Go.Proofs.Ytmlpcfeadacoeaa

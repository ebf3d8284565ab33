/-
  No cell of these rows narrows 'for every input' (looked for: loops, veiled, ifaces, maps, wideKeys, modest, calm, conditions, laid).
  DERIVED. THE GIVEN ROWS OF THIS SEAT. 5 by the template 'for every input the law returns true; each argument reads behind the call as it read before'; 0 by the template 'total and deterministic' (their statements: YtihlhkbdgbkafaaTotals.lean).
  GIVEN WITH THE SEED: the statements are not yours to turn. If you find one false, say at which input.
  Laid BY PROGRAM, IN A SANDBOX (cutbox-rows.mjs): the forced cells as the released guide's own fill.sh prints them over the translation d9c8b58d62bbf1f1… (all of the seat's roots in one cut). By AI agents, Wed Nov 11 2026. No macro, syntax, notation, axiom, sorry.
-/
import Derived.Test.YtihlhkbdgbkafaaChecked
import GoSem.Claim
import GoSem.ClaimJoined
import GoSem.ClaimMapViews
import Derived.JoinedTies
import Derived.KernelRfl
namespace Go.Proofs.Ytihlhkbdgbkafaa
/- THE CELL 'sum', in the pinned program and in every row, IS THE sha256 OF THE DUMP (.gsa) THAT YtihlhkbdgbkafaaProg.lean LOADS. Nothing in Lean hashes anything: it is a label: what it is worth is what the hold of that sum in a sandbox is worth. -/
noncomputable def Try.pinned : Pinned := { name := "ytihlhkbdgbkafaa", sum := "d9c8b58d62bbf1f17d8d7e621222301c65a1c30032558dc4541b3a44922ecf1e", checked := Try.checked }
namespace Rows
def none {H : Type} : Left H := { results := [], args := [] }

/-- 'treadwheellaw10.AlgosCheck': WHATEVER THE INPUT: true; the input reads as it did. -/
def algosCheckSpec : ChangeSpec := { name := "algosCheck", fn := fun _ => fun
  | [d1, d2, d3, d4, d5] => { results := [.lit (.bool true)], args := [d1, d2, d3, d4, d5] }
  | _ => none }
def algosCheckRow : OpenClaim := { program := "ytihlhkbdgbkafaa", sum := "d9c8b58d62bbf1f17d8d7e621222301c65a1c30032558dc4541b3a44922ecf1e", func := "treadwheel/treadwheellaw10.AlgosCheck", spec := "algosCheck", unfollowed := true, recurses := true, apart := false }
def AlgosCheckSaid : Prop := algosCheckRow.holds Try.pinned (OpenSpec.ofChange algosCheckSpec)

/-- ITS FALSE NEIGHBOUR: 'it returns false'. Refute it at one input. -/
def algosCheckWrong : ChangeSpec := { name := "algosCheck", fn := fun _ => fun
  | [d1, d2, d3, d4, d5] => { results := [.lit (.bool false)], args := [d1, d2, d3, d4, d5] }
  | _ => none }
def AlgosCheckWrongFalsely : Prop := algosCheckRow.holds Try.pinned (OpenSpec.ofChange algosCheckWrong)

/-- 'treadwheellaw10.AlgosCompute': WHATEVER THE INPUT: true; the input reads as it did. -/
def algosComputeSpec : ChangeSpec := { name := "algosCompute", fn := fun _ => fun
  | [d1, d2, d3, d4, d5] => { results := [.lit (.bool true)], args := [d1, d2, d3, d4, d5] }
  | _ => none }
def algosComputeRow : OpenClaim := { program := "ytihlhkbdgbkafaa", sum := "d9c8b58d62bbf1f17d8d7e621222301c65a1c30032558dc4541b3a44922ecf1e", func := "treadwheel/treadwheellaw10.AlgosCompute", spec := "algosCompute", unfollowed := true, recurses := true, apart := false }
def AlgosComputeSaid : Prop := algosComputeRow.holds Try.pinned (OpenSpec.ofChange algosComputeSpec)

/-- ITS FALSE NEIGHBOUR: 'it returns false'. Refute it at one input. -/
def algosComputeWrong : ChangeSpec := { name := "algosCompute", fn := fun _ => fun
  | [d1, d2, d3, d4, d5] => { results := [.lit (.bool false)], args := [d1, d2, d3, d4, d5] }
  | _ => none }
def AlgosComputeWrongFalsely : Prop := algosComputeRow.holds Try.pinned (OpenSpec.ofChange algosComputeWrong)

/-- 'treadwheellaw10.AlgosSend': WHATEVER THE INPUT: true; the input reads as it did. -/
def algosSendSpec : ChangeSpec := { name := "algosSend", fn := fun _ => fun
  | [d1, d2, d3, d4, d5, d6] => { results := [.lit (.bool true)], args := [d1, d2, d3, d4, d5, d6] }
  | _ => none }
def algosSendRow : OpenClaim := { program := "ytihlhkbdgbkafaa", sum := "d9c8b58d62bbf1f17d8d7e621222301c65a1c30032558dc4541b3a44922ecf1e", func := "treadwheel/treadwheellaw10.AlgosSend", spec := "algosSend", unfollowed := true, recurses := true, apart := false }
def AlgosSendSaid : Prop := algosSendRow.holds Try.pinned (OpenSpec.ofChange algosSendSpec)

/-- ITS FALSE NEIGHBOUR: 'it returns false'. Refute it at one input. -/
def algosSendWrong : ChangeSpec := { name := "algosSend", fn := fun _ => fun
  | [d1, d2, d3, d4, d5, d6] => { results := [.lit (.bool false)], args := [d1, d2, d3, d4, d5, d6] }
  | _ => none }
def AlgosSendWrongFalsely : Prop := algosSendRow.holds Try.pinned (OpenSpec.ofChange algosSendWrong)

/-- 'treadwheellaw10.AlgosOrder': WHATEVER THE INPUT: true; the input reads as it did. -/
def algosOrderSpec : ChangeSpec := { name := "algosOrder", fn := fun _ => fun
  | [d1, d2, d3, d4] => { results := [.lit (.bool true)], args := [d1, d2, d3, d4] }
  | _ => none }
def algosOrderRow : OpenClaim := { program := "ytihlhkbdgbkafaa", sum := "d9c8b58d62bbf1f17d8d7e621222301c65a1c30032558dc4541b3a44922ecf1e", func := "treadwheel/treadwheellaw10.AlgosOrder", spec := "algosOrder", unfollowed := true, recurses := true, apart := false }
def AlgosOrderSaid : Prop := algosOrderRow.holds Try.pinned (OpenSpec.ofChange algosOrderSpec)

/-- ITS FALSE NEIGHBOUR: 'it returns false'. Refute it at one input. -/
def algosOrderWrong : ChangeSpec := { name := "algosOrder", fn := fun _ => fun
  | [d1, d2, d3, d4] => { results := [.lit (.bool false)], args := [d1, d2, d3, d4] }
  | _ => none }
def AlgosOrderWrongFalsely : Prop := algosOrderRow.holds Try.pinned (OpenSpec.ofChange algosOrderWrong)

/-- 'treadwheellaw10.AlgosPart': WHATEVER THE INPUT: true; the input reads as it did. -/
def algosPartSpec : ChangeSpec := { name := "algosPart", fn := fun _ => fun
  | [d1, d2, d3, d4, d5, d6, d7] => { results := [.lit (.bool true)], args := [d1, d2, d3, d4, d5, d6, d7] }
  | _ => none }
def algosPartRow : OpenClaim := { program := "ytihlhkbdgbkafaa", sum := "d9c8b58d62bbf1f17d8d7e621222301c65a1c30032558dc4541b3a44922ecf1e", func := "treadwheel/treadwheellaw10.AlgosPart", spec := "algosPart", unfollowed := true, recurses := true, apart := false }
def AlgosPartSaid : Prop := algosPartRow.holds Try.pinned (OpenSpec.ofChange algosPartSpec)

/-- ITS FALSE NEIGHBOUR: 'it returns false'. Refute it at one input. -/
def algosPartWrong : ChangeSpec := { name := "algosPart", fn := fun _ => fun
  | [d1, d2, d3, d4, d5, d6, d7] => { results := [.lit (.bool false)], args := [d1, d2, d3, d4, d5, d6, d7] }
  | _ => none }
def AlgosPartWrongFalsely : Prop := algosPartRow.holds Try.pinned (OpenSpec.ofChange algosPartWrong)

/- THE SECOND FORM. 'bulk': how many values and letters a reading holds, each counted each time it is reached (what is shared counts as often as it is met; a slice's spare places count too). A statement '..UptoSaid' is the law's where the arguments, and the package variables that the reading takes, are together of bulk at most 1048576: NARROWER than '..Said'. Prove '..Said' where nothing that the law and all that it calls make is longer than what came in: it says more and counts as full. Else prove '..UptoSaid'. A law counts once. -/
mutual
def uptoBulk {H : Type} : DataW H → Nat
  | .lit (.string bytes) => bytes.length + 1
  | .lit _ => 1
  | .nil => 1
  | .ptr d => uptoBulk d + 1
  | .slice elems spare => uptoBulkAll elems + uptoBulkAll spare + 1
  | .agg parts => uptoBulkAll parts + 1
  | .iface _ d => uptoBulk d + 1
  | .map entries => uptoBulkEntries entries + 1
  | .held _ => 1
def uptoBulkAll {H : Type} : List (DataW H) → Nat
  | [] => 0
  | d :: r => uptoBulk d + uptoBulkAll r
def uptoBulkEntries {H : Type} : List (Lit × DataW H) → Nat
  | [] => 0
  | x :: r => uptoBulkEntry x + uptoBulkEntries r
def uptoBulkEntry {H : Type} : Lit × DataW H → Nat
  | (.string bytes, d) => bytes.length + uptoBulk d + 1
  | (_, d) => uptoBulk d + 1
 end
def uptoSmall : (H : Type) → List (DataW H) → Bool := fun _ ds => decide (uptoBulkAll ds ≤ 1048576)
def OpenSpec.upto (s : _root_.Go.ChangeSpec) : _root_.Go.OpenSpec := { _root_.Go.OpenSpec.ofChange s with cond := some uptoSmall }

/-- 'treadwheellaw10.AlgosCheck', WHERE WHAT IT READS IS OF BULK AT MOST 1048576: true; the input reads as it did. -/
def algosCheckUptoRow : OpenClaim := { program := "ytihlhkbdgbkafaa", sum := "d9c8b58d62bbf1f17d8d7e621222301c65a1c30032558dc4541b3a44922ecf1e", func := "treadwheel/treadwheellaw10.AlgosCheck", spec := "algosCheck", unfollowed := true, recurses := true, apart := false, narrowed := true }
def AlgosCheckUptoSaid : Prop := algosCheckUptoRow.holds Try.pinned (OpenSpec.upto algosCheckSpec)

/-- 'treadwheellaw10.AlgosCompute', WHERE WHAT IT READS IS OF BULK AT MOST 1048576: true; the input reads as it did. -/
def algosComputeUptoRow : OpenClaim := { program := "ytihlhkbdgbkafaa", sum := "d9c8b58d62bbf1f17d8d7e621222301c65a1c30032558dc4541b3a44922ecf1e", func := "treadwheel/treadwheellaw10.AlgosCompute", spec := "algosCompute", unfollowed := true, recurses := true, apart := false, narrowed := true }
def AlgosComputeUptoSaid : Prop := algosComputeUptoRow.holds Try.pinned (OpenSpec.upto algosComputeSpec)

/-- 'treadwheellaw10.AlgosSend', WHERE WHAT IT READS IS OF BULK AT MOST 1048576: true; the input reads as it did. -/
def algosSendUptoRow : OpenClaim := { program := "ytihlhkbdgbkafaa", sum := "d9c8b58d62bbf1f17d8d7e621222301c65a1c30032558dc4541b3a44922ecf1e", func := "treadwheel/treadwheellaw10.AlgosSend", spec := "algosSend", unfollowed := true, recurses := true, apart := false, narrowed := true }
def AlgosSendUptoSaid : Prop := algosSendUptoRow.holds Try.pinned (OpenSpec.upto algosSendSpec)

/-- 'treadwheellaw10.AlgosOrder', WHERE WHAT IT READS IS OF BULK AT MOST 1048576: true; the input reads as it did. -/
def algosOrderUptoRow : OpenClaim := { program := "ytihlhkbdgbkafaa", sum := "d9c8b58d62bbf1f17d8d7e621222301c65a1c30032558dc4541b3a44922ecf1e", func := "treadwheel/treadwheellaw10.AlgosOrder", spec := "algosOrder", unfollowed := true, recurses := true, apart := false, narrowed := true }
def AlgosOrderUptoSaid : Prop := algosOrderUptoRow.holds Try.pinned (OpenSpec.upto algosOrderSpec)

/-- 'treadwheellaw10.AlgosPart', WHERE WHAT IT READS IS OF BULK AT MOST 1048576: true; the input reads as it did. -/
def algosPartUptoRow : OpenClaim := { program := "ytihlhkbdgbkafaa", sum := "d9c8b58d62bbf1f17d8d7e621222301c65a1c30032558dc4541b3a44922ecf1e", func := "treadwheel/treadwheellaw10.AlgosPart", spec := "algosPart", unfollowed := true, recurses := true, apart := false, narrowed := true }
def AlgosPartUptoSaid : Prop := algosPartUptoRow.holds Try.pinned (OpenSpec.upto algosPartSpec)

end Rows
end Go.Proofs.Ytihlhkbdgbkafaa

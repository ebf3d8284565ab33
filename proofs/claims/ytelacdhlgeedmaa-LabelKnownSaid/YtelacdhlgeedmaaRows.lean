/-
  No cell of these rows narrows 'for every input' (looked for: loops, veiled, ifaces, maps, wideKeys, modest, calm, conditions, laid).
  DERIVED. THE GIVEN ROWS OF THIS SEAT. 4 by the template 'for every input the law returns true; each argument reads behind the call as it read before'; 0 by the template 'total and deterministic' (their statements: YtelacdhlgeedmaaTotals.lean).
  GIVEN WITH THE SEED: the statements are not yours to turn. If you find one false, say at which input.
  Laid BY PROGRAM, IN A SANDBOX (cutbox-rows.mjs): the forced cells as the released guide's own fill.sh prints them over the translation 84d8a251b71b7a2d… (all of the seat's roots in one cut). By AI agents, Wed Nov 11 2026. No macro, syntax, notation, axiom, sorry.
-/
import Derived.Test.YtelacdhlgeedmaaChecked
import GoSem.Claim
import GoSem.ClaimJoined
import GoSem.ClaimMapViews
import Derived.JoinedTies
import Derived.KernelRfl
namespace Go.Proofs.Ytelacdhlgeedmaa
/- THE CELL 'sum', in the pinned program and in every row, IS THE sha256 OF THE DUMP (.gsa) THAT YtelacdhlgeedmaaProg.lean LOADS. Nothing in Lean hashes anything: it is a label: what it is worth is what the hold of that sum in a sandbox is worth. -/
noncomputable def Try.pinned : Pinned := { name := "ytelacdhlgeedmaa", sum := "84d8a251b71b7a2d35c72dd3dbc55b2438db401569f8b7d8f379aa7151da6f1d", checked := Try.checked }
namespace Rows
def none {H : Type} : Left H := { results := [], args := [] }

/-- 'treadwheellaw08.LabelNear': WHATEVER THE INPUT: true; the input reads as it did. -/
def labelNearSpec : ChangeSpec := { name := "labelNear", fn := fun _ => fun
  | [d1, d2, d3] => { results := [.lit (.bool true)], args := [d1, d2, d3] }
  | _ => none }
def labelNearRow : OpenClaim := { program := "ytelacdhlgeedmaa", sum := "84d8a251b71b7a2d35c72dd3dbc55b2438db401569f8b7d8f379aa7151da6f1d", func := "treadwheel/treadwheellaw08.LabelNear", spec := "labelNear", unfollowed := true, recurses := true, apart := false }
def LabelNearSaid : Prop := labelNearRow.holds Try.pinned (OpenSpec.ofChange labelNearSpec)

/-- ITS FALSE NEIGHBOUR: 'it returns false'. Refute it at one input. -/
def labelNearWrong : ChangeSpec := { name := "labelNear", fn := fun _ => fun
  | [d1, d2, d3] => { results := [.lit (.bool false)], args := [d1, d2, d3] }
  | _ => none }
def LabelNearWrongFalsely : Prop := labelNearRow.holds Try.pinned (OpenSpec.ofChange labelNearWrong)

/-- 'treadwheellaw08.LabelTake': WHATEVER THE INPUT: true; the input reads as it did. -/
def labelTakeSpec : ChangeSpec := { name := "labelTake", fn := fun _ => fun
  | [d1, d2, d3] => { results := [.lit (.bool true)], args := [d1, d2, d3] }
  | _ => none }
def labelTakeRow : OpenClaim := { program := "ytelacdhlgeedmaa", sum := "84d8a251b71b7a2d35c72dd3dbc55b2438db401569f8b7d8f379aa7151da6f1d", func := "treadwheel/treadwheellaw08.LabelTake", spec := "labelTake", unfollowed := true, recurses := true, apart := false }
def LabelTakeSaid : Prop := labelTakeRow.holds Try.pinned (OpenSpec.ofChange labelTakeSpec)

/-- ITS FALSE NEIGHBOUR: 'it returns false'. Refute it at one input. -/
def labelTakeWrong : ChangeSpec := { name := "labelTake", fn := fun _ => fun
  | [d1, d2, d3] => { results := [.lit (.bool false)], args := [d1, d2, d3] }
  | _ => none }
def LabelTakeWrongFalsely : Prop := labelTakeRow.holds Try.pinned (OpenSpec.ofChange labelTakeWrong)

/-- 'treadwheellaw08.LabelMarks': WHATEVER THE INPUT: true; the input reads as it did. -/
def labelMarksSpec : ChangeSpec := { name := "labelMarks", fn := fun _ => fun
  | [d] => { results := [.lit (.bool true)], args := [d] }
  | _ => none }
def labelMarksRow : OpenClaim := { program := "ytelacdhlgeedmaa", sum := "84d8a251b71b7a2d35c72dd3dbc55b2438db401569f8b7d8f379aa7151da6f1d", func := "treadwheel/treadwheellaw08.LabelMarks", spec := "labelMarks", unfollowed := true, recurses := true, apart := false }
def LabelMarksSaid : Prop := labelMarksRow.holds Try.pinned (OpenSpec.ofChange labelMarksSpec)

/-- ITS FALSE NEIGHBOUR: 'it returns false'. Refute it at one input. -/
def labelMarksWrong : ChangeSpec := { name := "labelMarks", fn := fun _ => fun
  | [d] => { results := [.lit (.bool false)], args := [d] }
  | _ => none }
def LabelMarksWrongFalsely : Prop := labelMarksRow.holds Try.pinned (OpenSpec.ofChange labelMarksWrong)

/-- 'treadwheellaw08.LabelKnown': WHATEVER THE INPUT: true; the input reads as it did. -/
def labelKnownSpec : ChangeSpec := { name := "labelKnown", fn := fun _ => fun
  | [] => { results := [.lit (.bool true)], args := [] }
  | _ => none }
def labelKnownRow : OpenClaim := { program := "ytelacdhlgeedmaa", sum := "84d8a251b71b7a2d35c72dd3dbc55b2438db401569f8b7d8f379aa7151da6f1d", func := "treadwheel/treadwheellaw08.LabelKnown", spec := "labelKnown", unfollowed := true, recurses := true, apart := false }
def LabelKnownSaid : Prop := labelKnownRow.holds Try.pinned (OpenSpec.ofChange labelKnownSpec)

/-- ITS FALSE NEIGHBOUR: 'it returns false'. Refute it at one input. -/
def labelKnownWrong : ChangeSpec := { name := "labelKnown", fn := fun _ => fun
  | [] => { results := [.lit (.bool false)], args := [] }
  | _ => none }
def LabelKnownWrongFalsely : Prop := labelKnownRow.holds Try.pinned (OpenSpec.ofChange labelKnownWrong)

/- THE SECOND FORM. 'bulk': how many values and letters a reading holds, each counted each time it is reached (what is shared counts as often as it is met; a slice's spare places count too). A statement '..UptoSaid' is the law's where the arguments, and the package variables that the reading takes, are together of bulk at most 1048576: NARROWER than '..Said'. Prove '..Said' where nothing that the law and all that it calls make is longer than what came in: it says more and counts as full. Else prove '..UptoSaid'. A law counts once. -/
mutual
def uptoBulk {H : Type} : DataW H → Nat
  | .lit (.string bytes) => bytes.length + 1
  | .lit _ => 1
  | .nil => 1
  | .ptr d => uptoBulk d + 1
  | .slice elems spare => uptoBulkAll elems + uptoBulkAll spare + 1
  | .agg parts => uptoBulkAll parts + 1
  | .iface _ d => uptoBulk d + 1
  | .map entries => uptoBulkEntries entries + 1
  | .held _ => 1
def uptoBulkAll {H : Type} : List (DataW H) → Nat
  | [] => 0
  | d :: r => uptoBulk d + uptoBulkAll r
def uptoBulkEntries {H : Type} : List (Lit × DataW H) → Nat
  | [] => 0
  | x :: r => uptoBulkEntry x + uptoBulkEntries r
def uptoBulkEntry {H : Type} : Lit × DataW H → Nat
  | (.string bytes, d) => bytes.length + uptoBulk d + 1
  | (_, d) => uptoBulk d + 1
 end
def uptoSmall : (H : Type) → List (DataW H) → Bool := fun _ ds => decide (uptoBulkAll ds ≤ 1048576)
def OpenSpec.upto (s : _root_.Go.ChangeSpec) : _root_.Go.OpenSpec := { _root_.Go.OpenSpec.ofChange s with cond := some uptoSmall }

/-- 'treadwheellaw08.LabelNear', WHERE WHAT IT READS IS OF BULK AT MOST 1048576: true; the input reads as it did. -/
def labelNearUptoRow : OpenClaim := { program := "ytelacdhlgeedmaa", sum := "84d8a251b71b7a2d35c72dd3dbc55b2438db401569f8b7d8f379aa7151da6f1d", func := "treadwheel/treadwheellaw08.LabelNear", spec := "labelNear", unfollowed := true, recurses := true, apart := false, narrowed := true }
def LabelNearUptoSaid : Prop := labelNearUptoRow.holds Try.pinned (OpenSpec.upto labelNearSpec)

/-- 'treadwheellaw08.LabelTake', WHERE WHAT IT READS IS OF BULK AT MOST 1048576: true; the input reads as it did. -/
def labelTakeUptoRow : OpenClaim := { program := "ytelacdhlgeedmaa", sum := "84d8a251b71b7a2d35c72dd3dbc55b2438db401569f8b7d8f379aa7151da6f1d", func := "treadwheel/treadwheellaw08.LabelTake", spec := "labelTake", unfollowed := true, recurses := true, apart := false, narrowed := true }
def LabelTakeUptoSaid : Prop := labelTakeUptoRow.holds Try.pinned (OpenSpec.upto labelTakeSpec)

/-- 'treadwheellaw08.LabelMarks', WHERE WHAT IT READS IS OF BULK AT MOST 1048576: true; the input reads as it did. -/
def labelMarksUptoRow : OpenClaim := { program := "ytelacdhlgeedmaa", sum := "84d8a251b71b7a2d35c72dd3dbc55b2438db401569f8b7d8f379aa7151da6f1d", func := "treadwheel/treadwheellaw08.LabelMarks", spec := "labelMarks", unfollowed := true, recurses := true, apart := false, narrowed := true }
def LabelMarksUptoSaid : Prop := labelMarksUptoRow.holds Try.pinned (OpenSpec.upto labelMarksSpec)

/-- 'treadwheellaw08.LabelKnown', WHERE WHAT IT READS IS OF BULK AT MOST 1048576: true; the input reads as it did. -/
def labelKnownUptoRow : OpenClaim := { program := "ytelacdhlgeedmaa", sum := "84d8a251b71b7a2d35c72dd3dbc55b2438db401569f8b7d8f379aa7151da6f1d", func := "treadwheel/treadwheellaw08.LabelKnown", spec := "labelKnown", unfollowed := true, recurses := true, apart := false, narrowed := true }
def LabelKnownUptoSaid : Prop := labelKnownUptoRow.holds Try.pinned (OpenSpec.upto labelKnownSpec)

end Rows
end Go.Proofs.Ytelacdhlgeedmaa

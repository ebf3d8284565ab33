/-
  No cell of these rows narrows 'for every input' (looked for: loops, veiled, ifaces, maps, wideKeys, modest, calm, conditions, laid).
  DERIVED. THE GIVEN ROWS OF THIS SEAT. 6 by the template 'for every input the law returns true; each argument reads behind the call as it read before'; 0 by the template 'total and deterministic' (their statements: YtbmaiiflbdggnaaTotals.lean).
  GIVEN WITH THE SEED: the statements are not yours to turn. If you find one false, say at which input.
  Laid BY PROGRAM, IN A SANDBOX (cutbox-rows.mjs): the forced cells as the released guide's own fill.sh prints them over the translation bf98025a0b4678e1… (all of the seat's roots in one cut). By AI agents, Wed Nov 11 2026. No macro, syntax, notation, axiom, sorry.
-/
import Derived.Test.YtbmaiiflbdggnaaChecked
import GoSem.Claim
import GoSem.ClaimJoined
import GoSem.ClaimMapViews
import Derived.JoinedTies
import Derived.KernelRfl
namespace Go.Proofs.Ytbmaiiflbdggnaa
/- THE CELL 'sum', in the pinned program and in every row, IS THE sha256 OF THE DUMP (.gsa) THAT YtbmaiiflbdggnaaProg.lean LOADS. Nothing in Lean hashes anything: it is a label: what it is worth is what the hold of that sum in a sandbox is worth. -/
noncomputable def Try.pinned : Pinned := { name := "ytbmaiiflbdggnaa", sum := "bf98025a0b4678e1c44e78f55ef1301f3bf00e360f911531d83cdd5b1c200953", checked := Try.checked }
namespace Rows
def none {H : Type} : Left H := { results := [], args := [] }

/-- 'treadwheellaw02.FieldsStand': WHATEVER THE INPUT: true; the input reads as it did. -/
def fieldsStandSpec : ChangeSpec := { name := "fieldsStand", fn := fun _ => fun
  | [d] => { results := [.lit (.bool true)], args := [d] }
  | _ => none }
def fieldsStandRow : OpenClaim := { program := "ytbmaiiflbdggnaa", sum := "bf98025a0b4678e1c44e78f55ef1301f3bf00e360f911531d83cdd5b1c200953", func := "treadwheel/treadwheellaw02.FieldsStand", spec := "fieldsStand", unfollowed := true, recurses := true, apart := false }
def FieldsStandSaid : Prop := fieldsStandRow.holds Try.pinned (OpenSpec.ofChange fieldsStandSpec)

/-- ITS FALSE NEIGHBOUR: 'it returns false'. Refute it at one input. -/
def fieldsStandWrong : ChangeSpec := { name := "fieldsStand", fn := fun _ => fun
  | [d] => { results := [.lit (.bool false)], args := [d] }
  | _ => none }
def FieldsStandWrongFalsely : Prop := fieldsStandRow.holds Try.pinned (OpenSpec.ofChange fieldsStandWrong)

/-- 'treadwheellaw02.FieldsWalk': WHATEVER THE INPUT: true; the input reads as it did. -/
def fieldsWalkSpec : ChangeSpec := { name := "fieldsWalk", fn := fun _ => fun
  | [d1, d2] => { results := [.lit (.bool true)], args := [d1, d2] }
  | _ => none }
def fieldsWalkRow : OpenClaim := { program := "ytbmaiiflbdggnaa", sum := "bf98025a0b4678e1c44e78f55ef1301f3bf00e360f911531d83cdd5b1c200953", func := "treadwheel/treadwheellaw02.FieldsWalk", spec := "fieldsWalk", unfollowed := true, recurses := true, apart := false }
def FieldsWalkSaid : Prop := fieldsWalkRow.holds Try.pinned (OpenSpec.ofChange fieldsWalkSpec)

/-- ITS FALSE NEIGHBOUR: 'it returns false'. Refute it at one input. -/
def fieldsWalkWrong : ChangeSpec := { name := "fieldsWalk", fn := fun _ => fun
  | [d1, d2] => { results := [.lit (.bool false)], args := [d1, d2] }
  | _ => none }
def FieldsWalkWrongFalsely : Prop := fieldsWalkRow.holds Try.pinned (OpenSpec.ofChange fieldsWalkWrong)

/-- 'treadwheellaw02.FieldsOrdered': WHATEVER THE INPUT: true; the input reads as it did. -/
def fieldsOrderedSpec : ChangeSpec := { name := "fieldsOrdered", fn := fun _ => fun
  | [d1, d2] => { results := [.lit (.bool true)], args := [d1, d2] }
  | _ => none }
def fieldsOrderedRow : OpenClaim := { program := "ytbmaiiflbdggnaa", sum := "bf98025a0b4678e1c44e78f55ef1301f3bf00e360f911531d83cdd5b1c200953", func := "treadwheel/treadwheellaw02.FieldsOrdered", spec := "fieldsOrdered", unfollowed := true, recurses := true, apart := false }
def FieldsOrderedSaid : Prop := fieldsOrderedRow.holds Try.pinned (OpenSpec.ofChange fieldsOrderedSpec)

/-- ITS FALSE NEIGHBOUR: 'it returns false'. Refute it at one input. -/
def fieldsOrderedWrong : ChangeSpec := { name := "fieldsOrdered", fn := fun _ => fun
  | [d1, d2] => { results := [.lit (.bool false)], args := [d1, d2] }
  | _ => none }
def FieldsOrderedWrongFalsely : Prop := fieldsOrderedRow.holds Try.pinned (OpenSpec.ofChange fieldsOrderedWrong)

/-- 'treadwheellaw02.FieldsHalves': WHATEVER THE INPUT: true; the input reads as it did. -/
def fieldsHalvesSpec : ChangeSpec := { name := "fieldsHalves", fn := fun _ => fun
  | [d] => { results := [.lit (.bool true)], args := [d] }
  | _ => none }
def fieldsHalvesRow : OpenClaim := { program := "ytbmaiiflbdggnaa", sum := "bf98025a0b4678e1c44e78f55ef1301f3bf00e360f911531d83cdd5b1c200953", func := "treadwheel/treadwheellaw02.FieldsHalves", spec := "fieldsHalves", unfollowed := true, recurses := true, apart := false }
def FieldsHalvesSaid : Prop := fieldsHalvesRow.holds Try.pinned (OpenSpec.ofChange fieldsHalvesSpec)

/-- ITS FALSE NEIGHBOUR: 'it returns false'. Refute it at one input. -/
def fieldsHalvesWrong : ChangeSpec := { name := "fieldsHalves", fn := fun _ => fun
  | [d] => { results := [.lit (.bool false)], args := [d] }
  | _ => none }
def FieldsHalvesWrongFalsely : Prop := fieldsHalvesRow.holds Try.pinned (OpenSpec.ofChange fieldsHalvesWrong)

/-- 'treadwheellaw02.FieldsCut': WHATEVER THE INPUT: true; the input reads as it did. -/
def fieldsCutSpec : ChangeSpec := { name := "fieldsCut", fn := fun _ => fun
  | [d1, d2] => { results := [.lit (.bool true)], args := [d1, d2] }
  | _ => none }
def fieldsCutRow : OpenClaim := { program := "ytbmaiiflbdggnaa", sum := "bf98025a0b4678e1c44e78f55ef1301f3bf00e360f911531d83cdd5b1c200953", func := "treadwheel/treadwheellaw02.FieldsCut", spec := "fieldsCut", unfollowed := true, recurses := true, apart := false }
def FieldsCutSaid : Prop := fieldsCutRow.holds Try.pinned (OpenSpec.ofChange fieldsCutSpec)

/-- ITS FALSE NEIGHBOUR: 'it returns false'. Refute it at one input. -/
def fieldsCutWrong : ChangeSpec := { name := "fieldsCut", fn := fun _ => fun
  | [d1, d2] => { results := [.lit (.bool false)], args := [d1, d2] }
  | _ => none }
def FieldsCutWrongFalsely : Prop := fieldsCutRow.holds Try.pinned (OpenSpec.ofChange fieldsCutWrong)

/-- 'treadwheellaw02.FieldsKnown': WHATEVER THE INPUT: true; the input reads as it did. -/
def fieldsKnownSpec : ChangeSpec := { name := "fieldsKnown", fn := fun _ => fun
  | [] => { results := [.lit (.bool true)], args := [] }
  | _ => none }
def fieldsKnownRow : OpenClaim := { program := "ytbmaiiflbdggnaa", sum := "bf98025a0b4678e1c44e78f55ef1301f3bf00e360f911531d83cdd5b1c200953", func := "treadwheel/treadwheellaw02.FieldsKnown", spec := "fieldsKnown", unfollowed := true, recurses := true, apart := false }
def FieldsKnownSaid : Prop := fieldsKnownRow.holds Try.pinned (OpenSpec.ofChange fieldsKnownSpec)

/-- ITS FALSE NEIGHBOUR: 'it returns false'. Refute it at one input. -/
def fieldsKnownWrong : ChangeSpec := { name := "fieldsKnown", fn := fun _ => fun
  | [] => { results := [.lit (.bool false)], args := [] }
  | _ => none }
def FieldsKnownWrongFalsely : Prop := fieldsKnownRow.holds Try.pinned (OpenSpec.ofChange fieldsKnownWrong)

/- THE SECOND FORM. 'bulk': how many values and letters a reading holds, each counted each time it is reached (what is shared counts as often as it is met; a slice's spare places count too). A statement '..UptoSaid' is the law's where the arguments, and the package variables that the reading takes, are together of bulk at most 1048576: NARROWER than '..Said'. Prove '..Said' where nothing that the law and all that it calls make is longer than what came in: it says more and counts as full. Else prove '..UptoSaid'. A law counts once. -/
mutual
def uptoBulk {H : Type} : DataW H → Nat
  | .lit (.string bytes) => bytes.length + 1
  | .lit _ => 1
  | .nil => 1
  | .ptr d => uptoBulk d + 1
  | .slice elems spare => uptoBulkAll elems + uptoBulkAll spare + 1
  | .agg parts => uptoBulkAll parts + 1
  | .iface _ d => uptoBulk d + 1
  | .map entries => uptoBulkEntries entries + 1
  | .held _ => 1
def uptoBulkAll {H : Type} : List (DataW H) → Nat
  | [] => 0
  | d :: r => uptoBulk d + uptoBulkAll r
def uptoBulkEntries {H : Type} : List (Lit × DataW H) → Nat
  | [] => 0
  | x :: r => uptoBulkEntry x + uptoBulkEntries r
def uptoBulkEntry {H : Type} : Lit × DataW H → Nat
  | (.string bytes, d) => bytes.length + uptoBulk d + 1
  | (_, d) => uptoBulk d + 1
 end
def uptoSmall : (H : Type) → List (DataW H) → Bool := fun _ ds => decide (uptoBulkAll ds ≤ 1048576)
def OpenSpec.upto (s : _root_.Go.ChangeSpec) : _root_.Go.OpenSpec := { _root_.Go.OpenSpec.ofChange s with cond := some uptoSmall }

/-- 'treadwheellaw02.FieldsStand', WHERE WHAT IT READS IS OF BULK AT MOST 1048576: true; the input reads as it did. -/
def fieldsStandUptoRow : OpenClaim := { program := "ytbmaiiflbdggnaa", sum := "bf98025a0b4678e1c44e78f55ef1301f3bf00e360f911531d83cdd5b1c200953", func := "treadwheel/treadwheellaw02.FieldsStand", spec := "fieldsStand", unfollowed := true, recurses := true, apart := false, narrowed := true }
def FieldsStandUptoSaid : Prop := fieldsStandUptoRow.holds Try.pinned (OpenSpec.upto fieldsStandSpec)

/-- 'treadwheellaw02.FieldsWalk', WHERE WHAT IT READS IS OF BULK AT MOST 1048576: true; the input reads as it did. -/
def fieldsWalkUptoRow : OpenClaim := { program := "ytbmaiiflbdggnaa", sum := "bf98025a0b4678e1c44e78f55ef1301f3bf00e360f911531d83cdd5b1c200953", func := "treadwheel/treadwheellaw02.FieldsWalk", spec := "fieldsWalk", unfollowed := true, recurses := true, apart := false, narrowed := true }
def FieldsWalkUptoSaid : Prop := fieldsWalkUptoRow.holds Try.pinned (OpenSpec.upto fieldsWalkSpec)

/-- 'treadwheellaw02.FieldsOrdered', WHERE WHAT IT READS IS OF BULK AT MOST 1048576: true; the input reads as it did. -/
def fieldsOrderedUptoRow : OpenClaim := { program := "ytbmaiiflbdggnaa", sum := "bf98025a0b4678e1c44e78f55ef1301f3bf00e360f911531d83cdd5b1c200953", func := "treadwheel/treadwheellaw02.FieldsOrdered", spec := "fieldsOrdered", unfollowed := true, recurses := true, apart := false, narrowed := true }
def FieldsOrderedUptoSaid : Prop := fieldsOrderedUptoRow.holds Try.pinned (OpenSpec.upto fieldsOrderedSpec)

/-- 'treadwheellaw02.FieldsHalves', WHERE WHAT IT READS IS OF BULK AT MOST 1048576: true; the input reads as it did. -/
def fieldsHalvesUptoRow : OpenClaim := { program := "ytbmaiiflbdggnaa", sum := "bf98025a0b4678e1c44e78f55ef1301f3bf00e360f911531d83cdd5b1c200953", func := "treadwheel/treadwheellaw02.FieldsHalves", spec := "fieldsHalves", unfollowed := true, recurses := true, apart := false, narrowed := true }
def FieldsHalvesUptoSaid : Prop := fieldsHalvesUptoRow.holds Try.pinned (OpenSpec.upto fieldsHalvesSpec)

/-- 'treadwheellaw02.FieldsCut', WHERE WHAT IT READS IS OF BULK AT MOST 1048576: true; the input reads as it did. -/
def fieldsCutUptoRow : OpenClaim := { program := "ytbmaiiflbdggnaa", sum := "bf98025a0b4678e1c44e78f55ef1301f3bf00e360f911531d83cdd5b1c200953", func := "treadwheel/treadwheellaw02.FieldsCut", spec := "fieldsCut", unfollowed := true, recurses := true, apart := false, narrowed := true }
def FieldsCutUptoSaid : Prop := fieldsCutUptoRow.holds Try.pinned (OpenSpec.upto fieldsCutSpec)

/-- 'treadwheellaw02.FieldsKnown', WHERE WHAT IT READS IS OF BULK AT MOST 1048576: true; the input reads as it did. -/
def fieldsKnownUptoRow : OpenClaim := { program := "ytbmaiiflbdggnaa", sum := "bf98025a0b4678e1c44e78f55ef1301f3bf00e360f911531d83cdd5b1c200953", func := "treadwheel/treadwheellaw02.FieldsKnown", spec := "fieldsKnown", unfollowed := true, recurses := true, apart := false, narrowed := true }
def FieldsKnownUptoSaid : Prop := fieldsKnownUptoRow.holds Try.pinned (OpenSpec.upto fieldsKnownSpec)

end Rows
end Go.Proofs.Ytbmaiiflbdggnaa

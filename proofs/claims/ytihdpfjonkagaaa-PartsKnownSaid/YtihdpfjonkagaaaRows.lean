/-
  No cell of these rows narrows 'for every input' (looked for: loops, veiled, ifaces, maps, wideKeys, modest, calm, conditions, laid).
  DERIVED. THE GIVEN ROWS OF THIS SEAT. 5 by the template 'for every input the law returns true; each argument reads behind the call as it read before'; 0 by the template 'total and deterministic' (their statements: YtihdpfjonkagaaaTotals.lean).
  GIVEN WITH THE SEED: the statements are not yours to turn. If you find one false, say at which input.
  Laid BY PROGRAM, IN A SANDBOX (cutbox-rows.mjs): the forced cells as the released guide's own fill.sh prints them over the translation 5ef12a752680c47c… (all of the seat's roots in one cut). By AI agents, Wed Nov 11 2026. No macro, syntax, notation, axiom, sorry.
-/
import Derived.Test.YtihdpfjonkagaaaChecked
import GoSem.Claim
import GoSem.ClaimJoined
import GoSem.ClaimMapViews
import Derived.JoinedTies
import Derived.KernelRfl
namespace Go.Proofs.Ytihdpfjonkagaaa
/- THE CELL 'sum', in the pinned program and in every row, IS THE sha256 OF THE DUMP (.gsa) THAT YtihdpfjonkagaaaProg.lean LOADS. Nothing in Lean hashes anything: it is a label: what it is worth is what the hold of that sum in a sandbox is worth. -/
noncomputable def Try.pinned : Pinned := { name := "ytihdpfjonkagaaa", sum := "5ef12a752680c47cede728d491ac04b9ab7c21ad38dd5cc3f192678d028e68ef", checked := Try.checked }
namespace Rows
def none {H : Type} : Left H := { results := [], args := [] }

/-- 'treadwheellaw06.PartsOf': WHATEVER THE INPUT: true; the input reads as it did. -/
def partsOfSpec : ChangeSpec := { name := "partsOf", fn := fun _ => fun
  | [d1, d2, d3] => { results := [.lit (.bool true)], args := [d1, d2, d3] }
  | _ => none }
def partsOfRow : OpenClaim := { program := "ytihdpfjonkagaaa", sum := "5ef12a752680c47cede728d491ac04b9ab7c21ad38dd5cc3f192678d028e68ef", func := "treadwheel/treadwheellaw06.PartsOf", spec := "partsOf", unfollowed := true, recurses := true, apart := false }
def PartsOfSaid : Prop := partsOfRow.holds Try.pinned (OpenSpec.ofChange partsOfSpec)

/-- ITS FALSE NEIGHBOUR: 'it returns false'. Refute it at one input. -/
def partsOfWrong : ChangeSpec := { name := "partsOf", fn := fun _ => fun
  | [d1, d2, d3] => { results := [.lit (.bool false)], args := [d1, d2, d3] }
  | _ => none }
def PartsOfWrongFalsely : Prop := partsOfRow.holds Try.pinned (OpenSpec.ofChange partsOfWrong)

/-- 'treadwheellaw06.PartsCut': WHATEVER THE INPUT: true; the input reads as it did. -/
def partsCutSpec : ChangeSpec := { name := "partsCut", fn := fun _ => fun
  | [d1, d2, d3] => { results := [.lit (.bool true)], args := [d1, d2, d3] }
  | _ => none }
def partsCutRow : OpenClaim := { program := "ytihdpfjonkagaaa", sum := "5ef12a752680c47cede728d491ac04b9ab7c21ad38dd5cc3f192678d028e68ef", func := "treadwheel/treadwheellaw06.PartsCut", spec := "partsCut", unfollowed := true, recurses := true, apart := false }
def PartsCutSaid : Prop := partsCutRow.holds Try.pinned (OpenSpec.ofChange partsCutSpec)

/-- ITS FALSE NEIGHBOUR: 'it returns false'. Refute it at one input. -/
def partsCutWrong : ChangeSpec := { name := "partsCut", fn := fun _ => fun
  | [d1, d2, d3] => { results := [.lit (.bool false)], args := [d1, d2, d3] }
  | _ => none }
def PartsCutWrongFalsely : Prop := partsCutRow.holds Try.pinned (OpenSpec.ofChange partsCutWrong)

/-- 'treadwheellaw06.PartsJoin': WHATEVER THE INPUT: true; the input reads as it did. -/
def partsJoinSpec : ChangeSpec := { name := "partsJoin", fn := fun _ => fun
  | [d] => { results := [.lit (.bool true)], args := [d] }
  | _ => none }
def partsJoinRow : OpenClaim := { program := "ytihdpfjonkagaaa", sum := "5ef12a752680c47cede728d491ac04b9ab7c21ad38dd5cc3f192678d028e68ef", func := "treadwheel/treadwheellaw06.PartsJoin", spec := "partsJoin", unfollowed := true, recurses := true, apart := false }
def PartsJoinSaid : Prop := partsJoinRow.holds Try.pinned (OpenSpec.ofChange partsJoinSpec)

/-- ITS FALSE NEIGHBOUR: 'it returns false'. Refute it at one input. -/
def partsJoinWrong : ChangeSpec := { name := "partsJoin", fn := fun _ => fun
  | [d] => { results := [.lit (.bool false)], args := [d] }
  | _ => none }
def PartsJoinWrongFalsely : Prop := partsJoinRow.holds Try.pinned (OpenSpec.ofChange partsJoinWrong)

/-- 'treadwheellaw06.PartsWhole': WHATEVER THE INPUT: true; the input reads as it did. -/
def partsWholeSpec : ChangeSpec := { name := "partsWhole", fn := fun _ => fun
  | [d1, d2] => { results := [.lit (.bool true)], args := [d1, d2] }
  | _ => none }
def partsWholeRow : OpenClaim := { program := "ytihdpfjonkagaaa", sum := "5ef12a752680c47cede728d491ac04b9ab7c21ad38dd5cc3f192678d028e68ef", func := "treadwheel/treadwheellaw06.PartsWhole", spec := "partsWhole", unfollowed := true, recurses := true, apart := false }
def PartsWholeSaid : Prop := partsWholeRow.holds Try.pinned (OpenSpec.ofChange partsWholeSpec)

/-- ITS FALSE NEIGHBOUR: 'it returns false'. Refute it at one input. -/
def partsWholeWrong : ChangeSpec := { name := "partsWhole", fn := fun _ => fun
  | [d1, d2] => { results := [.lit (.bool false)], args := [d1, d2] }
  | _ => none }
def PartsWholeWrongFalsely : Prop := partsWholeRow.holds Try.pinned (OpenSpec.ofChange partsWholeWrong)

/-- 'treadwheellaw06.PartsKnown': WHATEVER THE INPUT: true; the input reads as it did. -/
def partsKnownSpec : ChangeSpec := { name := "partsKnown", fn := fun _ => fun
  | [] => { results := [.lit (.bool true)], args := [] }
  | _ => none }
def partsKnownRow : OpenClaim := { program := "ytihdpfjonkagaaa", sum := "5ef12a752680c47cede728d491ac04b9ab7c21ad38dd5cc3f192678d028e68ef", func := "treadwheel/treadwheellaw06.PartsKnown", spec := "partsKnown", unfollowed := true, recurses := true, apart := false }
def PartsKnownSaid : Prop := partsKnownRow.holds Try.pinned (OpenSpec.ofChange partsKnownSpec)

/-- ITS FALSE NEIGHBOUR: 'it returns false'. Refute it at one input. -/
def partsKnownWrong : ChangeSpec := { name := "partsKnown", fn := fun _ => fun
  | [] => { results := [.lit (.bool false)], args := [] }
  | _ => none }
def PartsKnownWrongFalsely : Prop := partsKnownRow.holds Try.pinned (OpenSpec.ofChange partsKnownWrong)

/- THE SECOND FORM. 'bulk': how many values and letters a reading holds, each counted each time it is reached (what is shared counts as often as it is met; a slice's spare places count too). A statement '..UptoSaid' is the law's where the arguments, and the package variables that the reading takes, are together of bulk at most 1048576: NARROWER than '..Said'. Prove '..Said' where nothing that the law and all that it calls make is longer than what came in: it says more and counts as full. Else prove '..UptoSaid'. A law counts once. -/
mutual
def uptoBulk {H : Type} : DataW H → Nat
  | .lit (.string bytes) => bytes.length + 1
  | .lit _ => 1
  | .nil => 1
  | .ptr d => uptoBulk d + 1
  | .slice elems spare => uptoBulkAll elems + uptoBulkAll spare + 1
  | .agg parts => uptoBulkAll parts + 1
  | .iface _ d => uptoBulk d + 1
  | .map entries => uptoBulkEntries entries + 1
  | .held _ => 1
def uptoBulkAll {H : Type} : List (DataW H) → Nat
  | [] => 0
  | d :: r => uptoBulk d + uptoBulkAll r
def uptoBulkEntries {H : Type} : List (Lit × DataW H) → Nat
  | [] => 0
  | x :: r => uptoBulkEntry x + uptoBulkEntries r
def uptoBulkEntry {H : Type} : Lit × DataW H → Nat
  | (.string bytes, d) => bytes.length + uptoBulk d + 1
  | (_, d) => uptoBulk d + 1
 end
def uptoSmall : (H : Type) → List (DataW H) → Bool := fun _ ds => decide (uptoBulkAll ds ≤ 1048576)
def OpenSpec.upto (s : _root_.Go.ChangeSpec) : _root_.Go.OpenSpec := { _root_.Go.OpenSpec.ofChange s with cond := some uptoSmall }

/-- 'treadwheellaw06.PartsOf', WHERE WHAT IT READS IS OF BULK AT MOST 1048576: true; the input reads as it did. -/
def partsOfUptoRow : OpenClaim := { program := "ytihdpfjonkagaaa", sum := "5ef12a752680c47cede728d491ac04b9ab7c21ad38dd5cc3f192678d028e68ef", func := "treadwheel/treadwheellaw06.PartsOf", spec := "partsOf", unfollowed := true, recurses := true, apart := false, narrowed := true }
def PartsOfUptoSaid : Prop := partsOfUptoRow.holds Try.pinned (OpenSpec.upto partsOfSpec)

/-- 'treadwheellaw06.PartsCut', WHERE WHAT IT READS IS OF BULK AT MOST 1048576: true; the input reads as it did. -/
def partsCutUptoRow : OpenClaim := { program := "ytihdpfjonkagaaa", sum := "5ef12a752680c47cede728d491ac04b9ab7c21ad38dd5cc3f192678d028e68ef", func := "treadwheel/treadwheellaw06.PartsCut", spec := "partsCut", unfollowed := true, recurses := true, apart := false, narrowed := true }
def PartsCutUptoSaid : Prop := partsCutUptoRow.holds Try.pinned (OpenSpec.upto partsCutSpec)

/-- 'treadwheellaw06.PartsJoin', WHERE WHAT IT READS IS OF BULK AT MOST 1048576: true; the input reads as it did. -/
def partsJoinUptoRow : OpenClaim := { program := "ytihdpfjonkagaaa", sum := "5ef12a752680c47cede728d491ac04b9ab7c21ad38dd5cc3f192678d028e68ef", func := "treadwheel/treadwheellaw06.PartsJoin", spec := "partsJoin", unfollowed := true, recurses := true, apart := false, narrowed := true }
def PartsJoinUptoSaid : Prop := partsJoinUptoRow.holds Try.pinned (OpenSpec.upto partsJoinSpec)

/-- 'treadwheellaw06.PartsWhole', WHERE WHAT IT READS IS OF BULK AT MOST 1048576: true; the input reads as it did. -/
def partsWholeUptoRow : OpenClaim := { program := "ytihdpfjonkagaaa", sum := "5ef12a752680c47cede728d491ac04b9ab7c21ad38dd5cc3f192678d028e68ef", func := "treadwheel/treadwheellaw06.PartsWhole", spec := "partsWhole", unfollowed := true, recurses := true, apart := false, narrowed := true }
def PartsWholeUptoSaid : Prop := partsWholeUptoRow.holds Try.pinned (OpenSpec.upto partsWholeSpec)

/-- 'treadwheellaw06.PartsKnown', WHERE WHAT IT READS IS OF BULK AT MOST 1048576: true; the input reads as it did. -/
def partsKnownUptoRow : OpenClaim := { program := "ytihdpfjonkagaaa", sum := "5ef12a752680c47cede728d491ac04b9ab7c21ad38dd5cc3f192678d028e68ef", func := "treadwheel/treadwheellaw06.PartsKnown", spec := "partsKnown", unfollowed := true, recurses := true, apart := false, narrowed := true }
def PartsKnownUptoSaid : Prop := partsKnownUptoRow.holds Try.pinned (OpenSpec.upto partsKnownSpec)

end Rows
end Go.Proofs.Ytihdpfjonkagaaa

/-
  No cell of these rows narrows 'for every input' (looked for: loops, veiled, ifaces, maps, wideKeys, modest, calm, conditions, laid).
  DERIVED. THE GIVEN ROWS OF THIS SEAT. 6 by the template 'for every input the law returns true; each argument reads behind the call as it read before'; 0 by the template 'total and deterministic' (their statements: YtgfdlllmcbgbcaaTotals.lean).
  GIVEN WITH THE SEED: the statements are not yours to turn. If you find one false, say at which input.
  Laid BY PROGRAM, IN A SANDBOX (cutbox-rows.mjs): the forced cells as the released guide's own fill.sh prints them over the translation 4d3a5a9daa2a030d… (all of the seat's roots in one cut). By AI agents, Wed Nov 11 2026. No macro, syntax, notation, axiom, sorry.
-/
import Derived.Test.YtgfdlllmcbgbcaaChecked
import GoSem.Claim
import GoSem.ClaimJoined
import GoSem.ClaimMapViews
import Derived.JoinedTies
import Derived.KernelRfl
namespace Go.Proofs.Ytgfdlllmcbgbcaa
/- THE CELL 'sum', in the pinned program and in every row, IS THE sha256 OF THE DUMP (.gsa) THAT YtgfdlllmcbgbcaaProg.lean LOADS. Nothing in Lean hashes anything: it is a label: what it is worth is what the hold of that sum in a sandbox is worth. -/
noncomputable def Try.pinned : Pinned := { name := "ytgfdlllmcbgbcaa", sum := "4d3a5a9daa2a030d525bc92b3c284e42e741c77c5ed0aa3fd2f5af174b0ed2c7", checked := Try.checked }
namespace Rows
def none {H : Type} : Left H := { results := [], args := [] }

/-- 'treadwheellaw14.StatesPut': WHATEVER THE INPUT: true; the input reads as it did. -/
def statesPutSpec : ChangeSpec := { name := "statesPut", fn := fun _ => fun
  | [d] => { results := [.lit (.bool true)], args := [d] }
  | _ => none }
def statesPutRow : OpenClaim := { program := "ytgfdlllmcbgbcaa", sum := "4d3a5a9daa2a030d525bc92b3c284e42e741c77c5ed0aa3fd2f5af174b0ed2c7", func := "treadwheel/treadwheellaw14.StatesPut", spec := "statesPut", unfollowed := true, recurses := true, apart := false }
def StatesPutSaid : Prop := statesPutRow.holds Try.pinned (OpenSpec.ofChange statesPutSpec)

/-- ITS FALSE NEIGHBOUR: 'it returns false'. Refute it at one input. -/
def statesPutWrong : ChangeSpec := { name := "statesPut", fn := fun _ => fun
  | [d] => { results := [.lit (.bool false)], args := [d] }
  | _ => none }
def StatesPutWrongFalsely : Prop := statesPutRow.holds Try.pinned (OpenSpec.ofChange statesPutWrong)

/-- 'treadwheellaw14.StatesGet': WHATEVER THE INPUT: true; the input reads as it did. -/
def statesGetSpec : ChangeSpec := { name := "statesGet", fn := fun _ => fun
  | [d] => { results := [.lit (.bool true)], args := [d] }
  | _ => none }
def statesGetRow : OpenClaim := { program := "ytgfdlllmcbgbcaa", sum := "4d3a5a9daa2a030d525bc92b3c284e42e741c77c5ed0aa3fd2f5af174b0ed2c7", func := "treadwheel/treadwheellaw14.StatesGet", spec := "statesGet", unfollowed := true, recurses := true, apart := false }
def StatesGetSaid : Prop := statesGetRow.holds Try.pinned (OpenSpec.ofChange statesGetSpec)

/-- ITS FALSE NEIGHBOUR: 'it returns false'. Refute it at one input. -/
def statesGetWrong : ChangeSpec := { name := "statesGet", fn := fun _ => fun
  | [d] => { results := [.lit (.bool false)], args := [d] }
  | _ => none }
def StatesGetWrongFalsely : Prop := statesGetRow.holds Try.pinned (OpenSpec.ofChange statesGetWrong)

/-- 'treadwheellaw14.StatesBack': WHATEVER THE INPUT: true; the input reads as it did. -/
def statesBackSpec : ChangeSpec := { name := "statesBack", fn := fun _ => fun
  | [d1, d2, d3] => { results := [.lit (.bool true)], args := [d1, d2, d3] }
  | _ => none }
def statesBackRow : OpenClaim := { program := "ytgfdlllmcbgbcaa", sum := "4d3a5a9daa2a030d525bc92b3c284e42e741c77c5ed0aa3fd2f5af174b0ed2c7", func := "treadwheel/treadwheellaw14.StatesBack", spec := "statesBack", unfollowed := true, recurses := true, apart := false }
def StatesBackSaid : Prop := statesBackRow.holds Try.pinned (OpenSpec.ofChange statesBackSpec)

/-- ITS FALSE NEIGHBOUR: 'it returns false'. Refute it at one input. -/
def statesBackWrong : ChangeSpec := { name := "statesBack", fn := fun _ => fun
  | [d1, d2, d3] => { results := [.lit (.bool false)], args := [d1, d2, d3] }
  | _ => none }
def StatesBackWrongFalsely : Prop := statesBackRow.holds Try.pinned (OpenSpec.ofChange statesBackWrong)

/-- 'treadwheellaw14.StatesTake': WHATEVER THE INPUT: true; the input reads as it did. -/
def statesTakeSpec : ChangeSpec := { name := "statesTake", fn := fun _ => fun
  | [d1, d2, d3] => { results := [.lit (.bool true)], args := [d1, d2, d3] }
  | _ => none }
def statesTakeRow : OpenClaim := { program := "ytgfdlllmcbgbcaa", sum := "4d3a5a9daa2a030d525bc92b3c284e42e741c77c5ed0aa3fd2f5af174b0ed2c7", func := "treadwheel/treadwheellaw14.StatesTake", spec := "statesTake", unfollowed := true, recurses := true, apart := false }
def StatesTakeSaid : Prop := statesTakeRow.holds Try.pinned (OpenSpec.ofChange statesTakeSpec)

/-- ITS FALSE NEIGHBOUR: 'it returns false'. Refute it at one input. -/
def statesTakeWrong : ChangeSpec := { name := "statesTake", fn := fun _ => fun
  | [d1, d2, d3] => { results := [.lit (.bool false)], args := [d1, d2, d3] }
  | _ => none }
def StatesTakeWrongFalsely : Prop := statesTakeRow.holds Try.pinned (OpenSpec.ofChange statesTakeWrong)

/-- 'treadwheellaw14.StatesJoin': WHATEVER THE INPUT: true; the input reads as it did. -/
def statesJoinSpec : ChangeSpec := { name := "statesJoin", fn := fun _ => fun
  | [d] => { results := [.lit (.bool true)], args := [d] }
  | _ => none }
def statesJoinRow : OpenClaim := { program := "ytgfdlllmcbgbcaa", sum := "4d3a5a9daa2a030d525bc92b3c284e42e741c77c5ed0aa3fd2f5af174b0ed2c7", func := "treadwheel/treadwheellaw14.StatesJoin", spec := "statesJoin", unfollowed := true, recurses := true, apart := false }
def StatesJoinSaid : Prop := statesJoinRow.holds Try.pinned (OpenSpec.ofChange statesJoinSpec)

/-- ITS FALSE NEIGHBOUR: 'it returns false'. Refute it at one input. -/
def statesJoinWrong : ChangeSpec := { name := "statesJoin", fn := fun _ => fun
  | [d] => { results := [.lit (.bool false)], args := [d] }
  | _ => none }
def StatesJoinWrongFalsely : Prop := statesJoinRow.holds Try.pinned (OpenSpec.ofChange statesJoinWrong)

/-- 'treadwheellaw14.StatesWhole': WHATEVER THE INPUT: true; the input reads as it did. -/
def statesWholeSpec : ChangeSpec := { name := "statesWhole", fn := fun _ => fun
  | [d1, d2] => { results := [.lit (.bool true)], args := [d1, d2] }
  | _ => none }
def statesWholeRow : OpenClaim := { program := "ytgfdlllmcbgbcaa", sum := "4d3a5a9daa2a030d525bc92b3c284e42e741c77c5ed0aa3fd2f5af174b0ed2c7", func := "treadwheel/treadwheellaw14.StatesWhole", spec := "statesWhole", unfollowed := true, recurses := true, apart := false }
def StatesWholeSaid : Prop := statesWholeRow.holds Try.pinned (OpenSpec.ofChange statesWholeSpec)

/-- ITS FALSE NEIGHBOUR: 'it returns false'. Refute it at one input. -/
def statesWholeWrong : ChangeSpec := { name := "statesWhole", fn := fun _ => fun
  | [d1, d2] => { results := [.lit (.bool false)], args := [d1, d2] }
  | _ => none }
def StatesWholeWrongFalsely : Prop := statesWholeRow.holds Try.pinned (OpenSpec.ofChange statesWholeWrong)

/- THE SECOND FORM. 'bulk': how many values and letters a reading holds, each counted each time it is reached (what is shared counts as often as it is met; a slice's spare places count too). A statement '..UptoSaid' is the law's where the arguments, and the package variables that the reading takes, are together of bulk at most 1048576: NARROWER than '..Said'. Prove '..Said' where nothing that the law and all that it calls make is longer than what came in: it says more and counts as full. Else prove '..UptoSaid'. A law counts once. -/
mutual
def uptoBulk {H : Type} : DataW H → Nat
  | .lit (.string bytes) => bytes.length + 1
  | .lit _ => 1
  | .nil => 1
  | .ptr d => uptoBulk d + 1
  | .slice elems spare => uptoBulkAll elems + uptoBulkAll spare + 1
  | .agg parts => uptoBulkAll parts + 1
  | .iface _ d => uptoBulk d + 1
  | .map entries => uptoBulkEntries entries + 1
  | .held _ => 1
def uptoBulkAll {H : Type} : List (DataW H) → Nat
  | [] => 0
  | d :: r => uptoBulk d + uptoBulkAll r
def uptoBulkEntries {H : Type} : List (Lit × DataW H) → Nat
  | [] => 0
  | x :: r => uptoBulkEntry x + uptoBulkEntries r
def uptoBulkEntry {H : Type} : Lit × DataW H → Nat
  | (.string bytes, d) => bytes.length + uptoBulk d + 1
  | (_, d) => uptoBulk d + 1
 end
def uptoSmall : (H : Type) → List (DataW H) → Bool := fun _ ds => decide (uptoBulkAll ds ≤ 1048576)
def OpenSpec.upto (s : _root_.Go.ChangeSpec) : _root_.Go.OpenSpec := { _root_.Go.OpenSpec.ofChange s with cond := some uptoSmall }

/-- 'treadwheellaw14.StatesPut', WHERE WHAT IT READS IS OF BULK AT MOST 1048576: true; the input reads as it did. -/
def statesPutUptoRow : OpenClaim := { program := "ytgfdlllmcbgbcaa", sum := "4d3a5a9daa2a030d525bc92b3c284e42e741c77c5ed0aa3fd2f5af174b0ed2c7", func := "treadwheel/treadwheellaw14.StatesPut", spec := "statesPut", unfollowed := true, recurses := true, apart := false, narrowed := true }
def StatesPutUptoSaid : Prop := statesPutUptoRow.holds Try.pinned (OpenSpec.upto statesPutSpec)

/-- 'treadwheellaw14.StatesGet', WHERE WHAT IT READS IS OF BULK AT MOST 1048576: true; the input reads as it did. -/
def statesGetUptoRow : OpenClaim := { program := "ytgfdlllmcbgbcaa", sum := "4d3a5a9daa2a030d525bc92b3c284e42e741c77c5ed0aa3fd2f5af174b0ed2c7", func := "treadwheel/treadwheellaw14.StatesGet", spec := "statesGet", unfollowed := true, recurses := true, apart := false, narrowed := true }
def StatesGetUptoSaid : Prop := statesGetUptoRow.holds Try.pinned (OpenSpec.upto statesGetSpec)

/-- 'treadwheellaw14.StatesBack', WHERE WHAT IT READS IS OF BULK AT MOST 1048576: true; the input reads as it did. -/
def statesBackUptoRow : OpenClaim := { program := "ytgfdlllmcbgbcaa", sum := "4d3a5a9daa2a030d525bc92b3c284e42e741c77c5ed0aa3fd2f5af174b0ed2c7", func := "treadwheel/treadwheellaw14.StatesBack", spec := "statesBack", unfollowed := true, recurses := true, apart := false, narrowed := true }
def StatesBackUptoSaid : Prop := statesBackUptoRow.holds Try.pinned (OpenSpec.upto statesBackSpec)

/-- 'treadwheellaw14.StatesTake', WHERE WHAT IT READS IS OF BULK AT MOST 1048576: true; the input reads as it did. -/
def statesTakeUptoRow : OpenClaim := { program := "ytgfdlllmcbgbcaa", sum := "4d3a5a9daa2a030d525bc92b3c284e42e741c77c5ed0aa3fd2f5af174b0ed2c7", func := "treadwheel/treadwheellaw14.StatesTake", spec := "statesTake", unfollowed := true, recurses := true, apart := false, narrowed := true }
def StatesTakeUptoSaid : Prop := statesTakeUptoRow.holds Try.pinned (OpenSpec.upto statesTakeSpec)

/-- 'treadwheellaw14.StatesJoin', WHERE WHAT IT READS IS OF BULK AT MOST 1048576: true; the input reads as it did. -/
def statesJoinUptoRow : OpenClaim := { program := "ytgfdlllmcbgbcaa", sum := "4d3a5a9daa2a030d525bc92b3c284e42e741c77c5ed0aa3fd2f5af174b0ed2c7", func := "treadwheel/treadwheellaw14.StatesJoin", spec := "statesJoin", unfollowed := true, recurses := true, apart := false, narrowed := true }
def StatesJoinUptoSaid : Prop := statesJoinUptoRow.holds Try.pinned (OpenSpec.upto statesJoinSpec)

/-- 'treadwheellaw14.StatesWhole', WHERE WHAT IT READS IS OF BULK AT MOST 1048576: true; the input reads as it did. -/
def statesWholeUptoRow : OpenClaim := { program := "ytgfdlllmcbgbcaa", sum := "4d3a5a9daa2a030d525bc92b3c284e42e741c77c5ed0aa3fd2f5af174b0ed2c7", func := "treadwheel/treadwheellaw14.StatesWhole", spec := "statesWhole", unfollowed := true, recurses := true, apart := false, narrowed := true }
def StatesWholeUptoSaid : Prop := statesWholeUptoRow.holds Try.pinned (OpenSpec.upto statesWholeSpec)

end Rows
end Go.Proofs.Ytgfdlllmcbgbcaa

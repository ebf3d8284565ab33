/-
  No cell of these rows narrows 'for every input' (looked for: loops, veiled, ifaces, maps, wideKeys, modest, calm, conditions, laid).
  DERIVED. THE GIVEN ROWS OF THIS SEAT. 7 by the template 'for every input the law returns true; each argument reads behind the call as it read before'; 0 by the template 'total and deterministic' (their statements: YtboljjmeicnklaaTotals.lean).
  GIVEN WITH THE SEED: the statements are not yours to turn. If you find one false, say at which input.
  Laid BY PROGRAM, IN A SANDBOX (cutbox-rows.mjs): the forced cells as the released guide's own fill.sh prints them over the translation b884a2fc62dd1f02… (all of the seat's roots in one cut). By AI agents, Wed Nov 11 2026. No macro, syntax, notation, axiom, sorry.
-/
import Derived.Test.YtboljjmeicnklaaChecked
import GoSem.Claim
import GoSem.ClaimJoined
import GoSem.ClaimMapViews
import Derived.JoinedTies
import Derived.KernelRfl
namespace Go.Proofs.Ytboljjmeicnklaa
/- THE CELL 'sum', in the pinned program and in every row, IS THE sha256 OF THE DUMP (.gsa) THAT YtboljjmeicnklaaProg.lean LOADS. Nothing in Lean hashes anything: it is a label: what it is worth is what the hold of that sum in a sandbox is worth. -/
noncomputable def Try.pinned : Pinned := { name := "ytboljjmeicnklaa", sum := "b884a2fc62dd1f0242a804c4a2844030f038999962e95a407b331cb0d6b8b971", checked := Try.checked }
namespace Rows
def none {H : Type} : Left H := { results := [], args := [] }

/-- 'treadwheellaw01.CrcDivides': WHATEVER THE INPUT: true; the input reads as it did. -/
def crcDividesSpec : ChangeSpec := { name := "crcDivides", fn := fun _ => fun
  | [d] => { results := [.lit (.bool true)], args := [d] }
  | _ => none }
def crcDividesRow : OpenClaim := { program := "ytboljjmeicnklaa", sum := "b884a2fc62dd1f0242a804c4a2844030f038999962e95a407b331cb0d6b8b971", func := "treadwheel/treadwheellaw01.CrcDivides", spec := "crcDivides", unfollowed := true, recurses := true, apart := false }
def CrcDividesSaid : Prop := crcDividesRow.holds Try.pinned (OpenSpec.ofChange crcDividesSpec)

/-- ITS FALSE NEIGHBOUR: 'it returns false'. Refute it at one input. -/
def crcDividesWrong : ChangeSpec := { name := "crcDivides", fn := fun _ => fun
  | [d] => { results := [.lit (.bool false)], args := [d] }
  | _ => none }
def CrcDividesWrongFalsely : Prop := crcDividesRow.holds Try.pinned (OpenSpec.ofChange crcDividesWrong)

/-- 'treadwheellaw01.CrcProducts': WHATEVER THE INPUT: true; the input reads as it did. -/
def crcProductsSpec : ChangeSpec := { name := "crcProducts", fn := fun _ => fun
  | [d1, d2, d3] => { results := [.lit (.bool true)], args := [d1, d2, d3] }
  | _ => none }
def crcProductsRow : OpenClaim := { program := "ytboljjmeicnklaa", sum := "b884a2fc62dd1f0242a804c4a2844030f038999962e95a407b331cb0d6b8b971", func := "treadwheel/treadwheellaw01.CrcProducts", spec := "crcProducts", unfollowed := true, recurses := true, apart := false }
def CrcProductsSaid : Prop := crcProductsRow.holds Try.pinned (OpenSpec.ofChange crcProductsSpec)

/-- ITS FALSE NEIGHBOUR: 'it returns false'. Refute it at one input. -/
def crcProductsWrong : ChangeSpec := { name := "crcProducts", fn := fun _ => fun
  | [d1, d2, d3] => { results := [.lit (.bool false)], args := [d1, d2, d3] }
  | _ => none }
def CrcProductsWrongFalsely : Prop := crcProductsRow.holds Try.pinned (OpenSpec.ofChange crcProductsWrong)

/-- 'treadwheellaw01.CrcRing': WHATEVER THE INPUT: true; the input reads as it did. -/
def crcRingSpec : ChangeSpec := { name := "crcRing", fn := fun _ => fun
  | [d1, d2, d3] => { results := [.lit (.bool true)], args := [d1, d2, d3] }
  | _ => none }
def crcRingRow : OpenClaim := { program := "ytboljjmeicnklaa", sum := "b884a2fc62dd1f0242a804c4a2844030f038999962e95a407b331cb0d6b8b971", func := "treadwheel/treadwheellaw01.CrcRing", spec := "crcRing", unfollowed := true, recurses := true, apart := false }
def CrcRingSaid : Prop := crcRingRow.holds Try.pinned (OpenSpec.ofChange crcRingSpec)

/-- ITS FALSE NEIGHBOUR: 'it returns false'. Refute it at one input. -/
def crcRingWrong : ChangeSpec := { name := "crcRing", fn := fun _ => fun
  | [d1, d2, d3] => { results := [.lit (.bool false)], args := [d1, d2, d3] }
  | _ => none }
def CrcRingWrongFalsely : Prop := crcRingRow.holds Try.pinned (OpenSpec.ofChange crcRingWrong)

/-- 'treadwheellaw01.CrcPowers': WHATEVER THE INPUT: true; the input reads as it did. -/
def crcPowersSpec : ChangeSpec := { name := "crcPowers", fn := fun _ => fun
  | [d1, d2] => { results := [.lit (.bool true)], args := [d1, d2] }
  | _ => none }
def crcPowersRow : OpenClaim := { program := "ytboljjmeicnklaa", sum := "b884a2fc62dd1f0242a804c4a2844030f038999962e95a407b331cb0d6b8b971", func := "treadwheel/treadwheellaw01.CrcPowers", spec := "crcPowers", unfollowed := true, recurses := true, apart := false }
def CrcPowersSaid : Prop := crcPowersRow.holds Try.pinned (OpenSpec.ofChange crcPowersSpec)

/-- ITS FALSE NEIGHBOUR: 'it returns false'. Refute it at one input. -/
def crcPowersWrong : ChangeSpec := { name := "crcPowers", fn := fun _ => fun
  | [d1, d2] => { results := [.lit (.bool false)], args := [d1, d2] }
  | _ => none }
def CrcPowersWrongFalsely : Prop := crcPowersRow.holds Try.pinned (OpenSpec.ofChange crcPowersWrong)

/-- 'treadwheellaw01.CrcEven': WHATEVER THE INPUT: true; the input reads as it did. -/
def crcEvenSpec : ChangeSpec := { name := "crcEven", fn := fun _ => fun
  | [d1, d2] => { results := [.lit (.bool true)], args := [d1, d2] }
  | _ => none }
def crcEvenRow : OpenClaim := { program := "ytboljjmeicnklaa", sum := "b884a2fc62dd1f0242a804c4a2844030f038999962e95a407b331cb0d6b8b971", func := "treadwheel/treadwheellaw01.CrcEven", spec := "crcEven", unfollowed := true, recurses := true, apart := false }
def CrcEvenSaid : Prop := crcEvenRow.holds Try.pinned (OpenSpec.ofChange crcEvenSpec)

/-- ITS FALSE NEIGHBOUR: 'it returns false'. Refute it at one input. -/
def crcEvenWrong : ChangeSpec := { name := "crcEven", fn := fun _ => fun
  | [d1, d2] => { results := [.lit (.bool false)], args := [d1, d2] }
  | _ => none }
def CrcEvenWrongFalsely : Prop := crcEvenRow.holds Try.pinned (OpenSpec.ofChange crcEvenWrong)

/-- 'treadwheellaw01.CrcJoins': WHATEVER THE INPUT: true; the input reads as it did. -/
def crcJoinsSpec : ChangeSpec := { name := "crcJoins", fn := fun _ => fun
  | [d1, d2] => { results := [.lit (.bool true)], args := [d1, d2] }
  | _ => none }
def crcJoinsRow : OpenClaim := { program := "ytboljjmeicnklaa", sum := "b884a2fc62dd1f0242a804c4a2844030f038999962e95a407b331cb0d6b8b971", func := "treadwheel/treadwheellaw01.CrcJoins", spec := "crcJoins", unfollowed := true, recurses := true, apart := false }
def CrcJoinsSaid : Prop := crcJoinsRow.holds Try.pinned (OpenSpec.ofChange crcJoinsSpec)

/-- ITS FALSE NEIGHBOUR: 'it returns false'. Refute it at one input. -/
def crcJoinsWrong : ChangeSpec := { name := "crcJoins", fn := fun _ => fun
  | [d1, d2] => { results := [.lit (.bool false)], args := [d1, d2] }
  | _ => none }
def CrcJoinsWrongFalsely : Prop := crcJoinsRow.holds Try.pinned (OpenSpec.ofChange crcJoinsWrong)

/-- 'treadwheellaw01.CrcKnown': WHATEVER THE INPUT: true; the input reads as it did. -/
def crcKnownSpec : ChangeSpec := { name := "crcKnown", fn := fun _ => fun
  | [] => { results := [.lit (.bool true)], args := [] }
  | _ => none }
def crcKnownRow : OpenClaim := { program := "ytboljjmeicnklaa", sum := "b884a2fc62dd1f0242a804c4a2844030f038999962e95a407b331cb0d6b8b971", func := "treadwheel/treadwheellaw01.CrcKnown", spec := "crcKnown", unfollowed := true, recurses := true, apart := false }
def CrcKnownSaid : Prop := crcKnownRow.holds Try.pinned (OpenSpec.ofChange crcKnownSpec)

/-- ITS FALSE NEIGHBOUR: 'it returns false'. Refute it at one input. -/
def crcKnownWrong : ChangeSpec := { name := "crcKnown", fn := fun _ => fun
  | [] => { results := [.lit (.bool false)], args := [] }
  | _ => none }
def CrcKnownWrongFalsely : Prop := crcKnownRow.holds Try.pinned (OpenSpec.ofChange crcKnownWrong)

/- THE SECOND FORM. 'bulk': how many values and letters a reading holds, each counted each time it is reached (what is shared counts as often as it is met; a slice's spare places count too). A statement '..UptoSaid' is the law's where the arguments, and the package variables that the reading takes, are together of bulk at most 1048576: NARROWER than '..Said'. Prove '..Said' where nothing that the law and all that it calls make is longer than what came in: it says more and counts as full. Else prove '..UptoSaid'. A law counts once. -/
mutual
def uptoBulk {H : Type} : DataW H → Nat
  | .lit (.string bytes) => bytes.length + 1
  | .lit _ => 1
  | .nil => 1
  | .ptr d => uptoBulk d + 1
  | .slice elems spare => uptoBulkAll elems + uptoBulkAll spare + 1
  | .agg parts => uptoBulkAll parts + 1
  | .iface _ d => uptoBulk d + 1
  | .map entries => uptoBulkEntries entries + 1
  | .held _ => 1
def uptoBulkAll {H : Type} : List (DataW H) → Nat
  | [] => 0
  | d :: r => uptoBulk d + uptoBulkAll r
def uptoBulkEntries {H : Type} : List (Lit × DataW H) → Nat
  | [] => 0
  | x :: r => uptoBulkEntry x + uptoBulkEntries r
def uptoBulkEntry {H : Type} : Lit × DataW H → Nat
  | (.string bytes, d) => bytes.length + uptoBulk d + 1
  | (_, d) => uptoBulk d + 1
 end
def uptoSmall : (H : Type) → List (DataW H) → Bool := fun _ ds => decide (uptoBulkAll ds ≤ 1048576)
def OpenSpec.upto (s : _root_.Go.ChangeSpec) : _root_.Go.OpenSpec := { _root_.Go.OpenSpec.ofChange s with cond := some uptoSmall }

/-- 'treadwheellaw01.CrcDivides', WHERE WHAT IT READS IS OF BULK AT MOST 1048576: true; the input reads as it did. -/
def crcDividesUptoRow : OpenClaim := { program := "ytboljjmeicnklaa", sum := "b884a2fc62dd1f0242a804c4a2844030f038999962e95a407b331cb0d6b8b971", func := "treadwheel/treadwheellaw01.CrcDivides", spec := "crcDivides", unfollowed := true, recurses := true, apart := false, narrowed := true }
def CrcDividesUptoSaid : Prop := crcDividesUptoRow.holds Try.pinned (OpenSpec.upto crcDividesSpec)

/-- 'treadwheellaw01.CrcProducts', WHERE WHAT IT READS IS OF BULK AT MOST 1048576: true; the input reads as it did. -/
def crcProductsUptoRow : OpenClaim := { program := "ytboljjmeicnklaa", sum := "b884a2fc62dd1f0242a804c4a2844030f038999962e95a407b331cb0d6b8b971", func := "treadwheel/treadwheellaw01.CrcProducts", spec := "crcProducts", unfollowed := true, recurses := true, apart := false, narrowed := true }
def CrcProductsUptoSaid : Prop := crcProductsUptoRow.holds Try.pinned (OpenSpec.upto crcProductsSpec)

/-- 'treadwheellaw01.CrcRing', WHERE WHAT IT READS IS OF BULK AT MOST 1048576: true; the input reads as it did. -/
def crcRingUptoRow : OpenClaim := { program := "ytboljjmeicnklaa", sum := "b884a2fc62dd1f0242a804c4a2844030f038999962e95a407b331cb0d6b8b971", func := "treadwheel/treadwheellaw01.CrcRing", spec := "crcRing", unfollowed := true, recurses := true, apart := false, narrowed := true }
def CrcRingUptoSaid : Prop := crcRingUptoRow.holds Try.pinned (OpenSpec.upto crcRingSpec)

/-- 'treadwheellaw01.CrcPowers', WHERE WHAT IT READS IS OF BULK AT MOST 1048576: true; the input reads as it did. -/
def crcPowersUptoRow : OpenClaim := { program := "ytboljjmeicnklaa", sum := "b884a2fc62dd1f0242a804c4a2844030f038999962e95a407b331cb0d6b8b971", func := "treadwheel/treadwheellaw01.CrcPowers", spec := "crcPowers", unfollowed := true, recurses := true, apart := false, narrowed := true }
def CrcPowersUptoSaid : Prop := crcPowersUptoRow.holds Try.pinned (OpenSpec.upto crcPowersSpec)

/-- 'treadwheellaw01.CrcEven', WHERE WHAT IT READS IS OF BULK AT MOST 1048576: true; the input reads as it did. -/
def crcEvenUptoRow : OpenClaim := { program := "ytboljjmeicnklaa", sum := "b884a2fc62dd1f0242a804c4a2844030f038999962e95a407b331cb0d6b8b971", func := "treadwheel/treadwheellaw01.CrcEven", spec := "crcEven", unfollowed := true, recurses := true, apart := false, narrowed := true }
def CrcEvenUptoSaid : Prop := crcEvenUptoRow.holds Try.pinned (OpenSpec.upto crcEvenSpec)

/-- 'treadwheellaw01.CrcJoins', WHERE WHAT IT READS IS OF BULK AT MOST 1048576: true; the input reads as it did. -/
def crcJoinsUptoRow : OpenClaim := { program := "ytboljjmeicnklaa", sum := "b884a2fc62dd1f0242a804c4a2844030f038999962e95a407b331cb0d6b8b971", func := "treadwheel/treadwheellaw01.CrcJoins", spec := "crcJoins", unfollowed := true, recurses := true, apart := false, narrowed := true }
def CrcJoinsUptoSaid : Prop := crcJoinsUptoRow.holds Try.pinned (OpenSpec.upto crcJoinsSpec)

/-- 'treadwheellaw01.CrcKnown', WHERE WHAT IT READS IS OF BULK AT MOST 1048576: true; the input reads as it did. -/
def crcKnownUptoRow : OpenClaim := { program := "ytboljjmeicnklaa", sum := "b884a2fc62dd1f0242a804c4a2844030f038999962e95a407b331cb0d6b8b971", func := "treadwheel/treadwheellaw01.CrcKnown", spec := "crcKnown", unfollowed := true, recurses := true, apart := false, narrowed := true }
def CrcKnownUptoSaid : Prop := crcKnownUptoRow.holds Try.pinned (OpenSpec.upto crcKnownSpec)

end Rows
end Go.Proofs.Ytboljjmeicnklaa

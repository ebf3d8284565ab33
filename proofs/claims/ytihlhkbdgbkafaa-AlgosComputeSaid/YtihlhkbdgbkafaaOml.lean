/- An argument that is mail. -/
import Derived.Test.YtihlhkbdgbkafaaRow
import Derived.Test.YtihlhkbdgbkafaaProg
namespace Go.Proofs.Ytihlhkbdgbkafaa
open Go.ChangeShapes Go.WideShapes Go.ChangeAt Go.RowKit
set_option linter.unusedVariables false
set_option maxRecDepth 100000 in
theorem open_mail {H : Type} {enc : TypeId × Value → H} {W : World} {base : Nat} {r : Reach} {v : Value} {d : DataW H} {p : List MemPlace}
    (hv : Value.okWide Try.prog W r base 36 v) (h : DataW.Trod enc Try.prog W 0 (fun _ => true) true 36 v d p) (hz : ∀ n ∈ d.weights Try.prog 36, n ≤ reachBytes) :
    ∃ (b : Bool) (x : Int), v = .agg #[.bool b, .int .i64 x] ∧ -9223372036854775808 ≤ x ∧ x ≤ 9223372036854775807 := by
  obtain ⟨cs, rfl, hs⟩ := okWide_struct Try.underlying36 hv
  obtain ⟨fuel, hf⟩ := h
  obtain ⟨y0, y1, n, _, hl, h0, h1⟩ := trod_struct2 Try.underlying36 hf
  rw [show Try.prog.cellsOf 36 = 2 by kernel_rfl] at hs
  obtain ⟨b, e0, _⟩ := DataW.trod_bool Try.underlying4 h0
  obtain ⟨x, e1, _, w1⟩ := DataW.trod_int Try.underlying2 h1
  have bx := bounds_i64 w1
  match cs, hs with
  | ⟨[a, c]⟩, _ =>
    have ea : a = .bool b := by simpa [Value.cells, show Try.prog.cellsOf 4 = 1 by kernel_rfl] using e0
    have ec : c = .int .i64 x := by simpa [Value.cells, show Try.prog.cellsOf 2 = 1 by kernel_rfl] using e1
    exact ⟨b, x, by rw [ea, ec], bx.1, bx.2⟩
end Go.Proofs.Ytihlhkbdgbkafaa

/- An argument that is a row of numbers of 64 bits. -/
import Derived.Test.YtmlpcfeadacoeaaRow
import Derived.Test.YtmlpcfeadacoeaaProg
namespace Go.Proofs.Ytmlpcfeadacoeaa
open Go.ChangeShapes Go.WideShapes Go.ChangeAt Go.RowKit
set_option linter.unusedVariables false
section
variable {H : Type} {enc : TypeId × Value → H}
theorem int64_cells : Try.prog.cellsOf 2 = 1 := by kernel_rfl
theorem open_i64s {W : World} {base : Nat} {r : Reach} {v : Value} {d : DataW H} {p : List MemPlace}
    (hv : Value.okWide Try.prog W r base 36 v) (h : DataW.Trod enc Try.prog W 0 (fun _ => true) true 36 v d p) (hz : ∀ n ∈ d.weights Try.prog 36, n ≤ reachBytes) :
    ∃ (A : Option Addr) (zs : List Int) (c : Nat), v = .slice A zs.length c ∧ Rd W W.heap.size A (zs.map (Value.int .i64)) ∧ ∀ z ∈ zs, (Lit.int .i64 z).wf = true := by
  obtain ⟨A, zs, c, h1, h2, _, _, _, h3⟩ := open_nums Try.underlying36 Try.underlying2 int64_cells hv h hz
  exact ⟨A, zs, c, h1, h2, h3⟩
end
end Go.Proofs.Ytmlpcfeadacoeaa

/- A number of 64 bits is one cell. -/
import Derived.Test.YtihdpfjonkagaaaRow
import Derived.Test.YtihdpfjonkagaaaProg
namespace Go.Proofs.Ytihdpfjonkagaaa
theorem int64_cells : Try.prog.cellsOf 2 = 1 := by kernel_rfl
end Go.Proofs.Ytihdpfjonkagaaa

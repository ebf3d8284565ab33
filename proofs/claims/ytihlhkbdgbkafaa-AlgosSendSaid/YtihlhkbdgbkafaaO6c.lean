/- A number of 64 bits is one cell. -/
import Derived.Test.YtihlhkbdgbkafaaRow
import Derived.Test.YtihlhkbdgbkafaaProg
namespace Go.Proofs.Ytihlhkbdgbkafaa
theorem int64_cells : Try.prog.cellsOf 2 = 1 := by kernel_rfl
end Go.Proofs.Ytihlhkbdgbkafaa

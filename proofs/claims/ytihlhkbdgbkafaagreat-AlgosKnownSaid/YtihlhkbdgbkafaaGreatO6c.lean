/- A number of 64 bits is one cell. -/
import Derived.Test.YtihlhkbdgbkafaaGreatRow
import Derived.Test.YtihlhkbdgbkafaaGreatProg
namespace Go.Proofs.YtihlhkbdgbkafaaGreat
theorem int64_cells : Tryz.prog.cellsOf 2 = 1 := by kernel_rfl
end Go.Proofs.YtihlhkbdgbkafaaGreat

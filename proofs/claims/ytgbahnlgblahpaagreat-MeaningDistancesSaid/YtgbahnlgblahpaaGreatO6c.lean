/- A number of 64 bits is one cell. -/
import Derived.Test.YtgbahnlgblahpaaGreatRow
import Derived.Test.YtgbahnlgblahpaaGreatProg
namespace Go.Proofs.YtgbahnlgblahpaaGreat
theorem int64_cells : Tryz.prog.cellsOf 2 = 1 := by kernel_rfl
end Go.Proofs.YtgbahnlgblahpaaGreat

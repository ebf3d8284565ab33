/- Arguments that are jobs, totals. -/
import Derived.Test.YtpgbjabifhjogaaGreatProg
import Derived.Deep.Strs
import Derived.Test.YtpgbjabifhjogaaGreatSeqSameFw1
import Derived.Test.YtpgbjabifhjogaaGreatSeqSameFw2
namespace Go.Proofs.YtpgbjabifhjogaaGreat
open Go.ChangeShapes Go.WideShapes Go.ChangeAt Go.RowKit Go.Deep
set_option linter.unusedVariables false
section
variable {H : Type} {enc : TypeId × Value → H}
def i64B (x : Int) : Prop := -9223372036854775808 ≤ x ∧ x ≤ 9223372036854775807
end
end Go.Proofs.YtpgbjabifhjogaaGreat

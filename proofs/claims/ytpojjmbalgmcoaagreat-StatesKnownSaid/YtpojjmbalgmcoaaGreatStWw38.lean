/- Lemmas: Ojb. -/
import Derived.Test.YtpojjmbalgmcoaaGreatProg
import Derived.Deep.Strs
import Derived.Test.YtpojjmbalgmcoaaGreatStWw2
set_option linter.unusedVariables false
set_option linter.unusedSimpArgs false
set_option maxRecDepth 100000
set_option maxHeartbeats 16000000
namespace Go.Proofs.YtpojjmbalgmcoaaGreat
open Go.ChangeShapes Go.WideShapes Go.ChangeAt Go.RowKit Go.Deep
section
variable {H:Type} {enc:TypeId×Value→H}
def i64B (x:Int):Prop:=-9223372036854775808≤x∧x≤9223372036854775807
end
end Go.Proofs.YtpojjmbalgmcoaaGreat

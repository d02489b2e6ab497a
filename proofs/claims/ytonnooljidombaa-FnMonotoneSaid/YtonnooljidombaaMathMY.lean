/- What those partial functions come to: plain lemmas on data; each bears its conditions in its statement. -/
import Derived.Test.YtonnooljidombaaMathMX
set_option linter.unusedVariables false
set_option linter.unusedSimpArgs false
set_option linter.ambiguousOpen false
set_option linter.unusedSectionVars false
set_option linter.unnecessarySimpa false
set_option linter.unusedVariables false
set_option linter.unusedSimpArgs false
namespace Go.Proofs.Ytonnooljidombaa
open Go Go.E
section
variable {b : List UInt8} {o : l1Cur} (hb : b.length ≤ 1048576)
include hb
end
end Go.Proofs.Ytonnooljidombaa


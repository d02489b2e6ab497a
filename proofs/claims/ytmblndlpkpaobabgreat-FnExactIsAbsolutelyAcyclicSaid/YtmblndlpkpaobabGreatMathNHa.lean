/- What those partial functions come to: plain lemmas on data; each bears its conditions in its statement. -/
import Derived.Test.YtmblndlpkpaobabGreatMathNGa
import Derived.Test.YtmblndlpkpaobabGreatMathM5a
import Derived.Test.YtmblndlpkpaobabGreatMathMNaa
set_option linter.unusedVariables false
set_option linter.unusedSimpArgs false
set_option linter.ambiguousOpen false
set_option linter.unusedSectionVars false
set_option linter.unnecessarySimpa false
set_option linter.unusedVariables false
set_option linter.unusedSimpArgs false
namespace Go.Proofs.YtmblndlpkpaobabGreat
open Go Go.E
end Go.Proofs.YtmblndlpkpaobabGreat

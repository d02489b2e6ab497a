/- What those partial functions come to: plain lemmas on data; each bears its conditions in its statement. -/
import Derived.Test.YtmblndlpkpaobaaGreatLift
import Derived.Test.YtmblndlpkpaobaaGreatEngC
set_option linter.unusedVariables false
set_option linter.unusedSimpArgs false
set_option linter.ambiguousOpen false
set_option linter.unusedSectionVars false
set_option linter.unnecessarySimpa false
set_option linter.unusedVariables false
set_option linter.unusedSimpArgs false
namespace Go.Proofs.YtmblndlpkpaobaaGreat
open Go Go.E
def bit (x:Int)(k:Int):Prop:=x.toNat >>> k.toNat &&& 1=1
instance (x k:Int):Decidable (bit x k):=by unfold bit; infer_instance
theorem j0w (x lo hi:Int):q2z x lo hi=some (decide (lo≤x∧x≤hi)):=by
 unfold q2z; split<;>simp_all<;>omega
theorem z7l (x lo hi:Int):q0P x lo hi=some (decide (lo≤x∧x≤hi)):=by
 unfold q0P; split<;>simp_all<;>omega
end Go.Proofs.YtmblndlpkpaobaaGreat

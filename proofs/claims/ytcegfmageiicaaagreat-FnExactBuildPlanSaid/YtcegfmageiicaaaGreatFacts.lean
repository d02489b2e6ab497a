/- Closed facts of the row: each is checked by the kernel; without conditions. -/
import Derived.JoinedOf
import Derived.Test.YtcegfmageiicaaaGreatRows
set_option linter.unusedVariables false
set_option linter.unusedSimpArgs false
set_option linter.ambiguousOpen false
set_option linter.unusedSectionVars false
set_option linter.unnecessarySimpa false
set_option maxHeartbeats 100000000
set_option maxRecDepth 100000
namespace Go.Proofs.YtcegfmageiicaaaGreat
open Go
theorem z9O:joinedFacts Tryz.pinned.checked.prog 7 Tryz.f7 Rows.fnExactBuildPlanSpec Rows.fnExactBuildPlanRow=true:=by
 simp only [joinedFacts,Bool.and_eq_true]
 repeat' apply And.intro
 all_goals as_aux_lemma=>kernel_rfl
theorem z9c:Tryz.pinned.checked.prog.funcNamed Rows.fnExactBuildPlanRow.func=some 7:=by kernel_rfl
theorem z9P:Tryz.f7.isInstance Tryz.pinned.checked.prog Rows.fnExactBuildPlanRow.origin Rows.fnExactBuildPlanRow.targs:=of_decide_eq_true (by kernel_rfl)
theorem z9Q:Tryz.f7.isWrapper Tryz.pinned.checked.prog Rows.fnExactBuildPlanRow.wrapper Rows.fnExactBuildPlanRow.mainSum:=by
 unfold Func.isWrapper; first | (rw [if_pos (by decide +kernel)]; kernel_rfl) | (rw [if_neg (by decide +kernel)]; exact⟨rfl,rfl⟩)
end Go.Proofs.YtcegfmageiicaaaGreat

/- Closed facts of the row: each is checked by the kernel; without conditions. -/
import Derived.JoinedOf
import Derived.Test.YtipikecbeganoaaGreatRows
set_option linter.unusedVariables false
set_option linter.unusedSimpArgs false
set_option linter.ambiguousOpen false
set_option linter.unusedSectionVars false
set_option linter.unnecessarySimpa false
set_option maxHeartbeats 100000000
set_option maxRecDepth 100000
namespace Go.Proofs.YtipikecbeganoaaGreat
open Go
theorem z7r:joinedFacts Tryz.pinned.checked.prog 3 Tryz.f3 Rows.fnExactSummaryTreeSpec Rows.fnExactSummaryTreeRow=true:=by
 simp only [joinedFacts,Bool.and_eq_true]
 repeat' apply And.intro
 all_goals as_aux_lemma=>kernel_rfl
theorem z6i:Tryz.pinned.checked.prog.funcNamed Rows.fnExactSummaryTreeRow.func=some 3:=by kernel_rfl
theorem z7s:Tryz.f3.isInstance Tryz.pinned.checked.prog Rows.fnExactSummaryTreeRow.origin Rows.fnExactSummaryTreeRow.targs:=of_decide_eq_true (by kernel_rfl)
theorem z7t:Tryz.f3.isWrapper Tryz.pinned.checked.prog Rows.fnExactSummaryTreeRow.wrapper Rows.fnExactSummaryTreeRow.mainSum:=by
 unfold Func.isWrapper; first | (rw [if_pos (by decide +kernel)]; kernel_rfl) | (rw [if_neg (by decide +kernel)]; exact⟨rfl,rfl⟩)
end Go.Proofs.YtipikecbeganoaaGreat

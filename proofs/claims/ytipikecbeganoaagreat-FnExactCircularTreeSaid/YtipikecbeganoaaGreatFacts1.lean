/- Closed facts of the row: each is checked by the kernel; without conditions. -/
import Derived.JoinedOf
import Derived.Test.YtipikecbeganoaaGreatRows
set_option linter.unusedVariables false
set_option linter.unusedSimpArgs false
set_option linter.ambiguousOpen false
set_option linter.unusedSectionVars false
set_option linter.unnecessarySimpa false
set_option maxHeartbeats 100000000
set_option maxRecDepth 100000
namespace Go.Proofs.YtipikecbeganoaaGreat
open Go
theorem z6f:joinedFacts Tryz.pinned.checked.prog 4 Tryz.f4 Rows.fnExactCircularTreeSpec Rows.fnExactCircularTreeRow=true:=by
 simp only [joinedFacts,Bool.and_eq_true]
 repeat' apply And.intro
 all_goals as_aux_lemma=>kernel_rfl
theorem z5P:Tryz.pinned.checked.prog.funcNamed Rows.fnExactCircularTreeRow.func=some 4:=by kernel_rfl
theorem z6g:Tryz.f4.isInstance Tryz.pinned.checked.prog Rows.fnExactCircularTreeRow.origin Rows.fnExactCircularTreeRow.targs:=of_decide_eq_true (by kernel_rfl)
theorem z6h:Tryz.f4.isWrapper Tryz.pinned.checked.prog Rows.fnExactCircularTreeRow.wrapper Rows.fnExactCircularTreeRow.mainSum:=by
 unfold Func.isWrapper; first | (rw [if_pos (by decide +kernel)]; kernel_rfl) | (rw [if_neg (by decide +kernel)]; exact⟨rfl,rfl⟩)
end Go.Proofs.YtipikecbeganoaaGreat

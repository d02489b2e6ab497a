/- Closed facts of the row: each is checked by the kernel; without conditions. -/
import Derived.JoinedOf
import Derived.Test.YtomdlgffolbdkaaGreatRows
set_option linter.unusedVariables false
set_option linter.unusedSimpArgs false
set_option linter.ambiguousOpen false
set_option linter.unusedSectionVars false
set_option linter.unnecessarySimpa false
set_option maxHeartbeats 100000000
set_option maxRecDepth 100000
namespace Go.Proofs.YtomdlgffolbdkaaGreat
open Go
theorem z5S:joinedFacts Tryz.pinned.checked.prog 5 Tryz.f5 Rows.fnExactIsCircularSpec Rows.fnExactIsCircularRow=true:=by
 simp only [joinedFacts,Bool.and_eq_true]
 repeat' apply And.intro
 all_goals as_aux_lemma=>kernel_rfl
theorem z5x:Tryz.pinned.checked.prog.funcNamed Rows.fnExactIsCircularRow.func=some 5:=by kernel_rfl
theorem z5T:Tryz.f5.isInstance Tryz.pinned.checked.prog Rows.fnExactIsCircularRow.origin Rows.fnExactIsCircularRow.targs:=of_decide_eq_true (by kernel_rfl)
theorem z5U:Tryz.f5.isWrapper Tryz.pinned.checked.prog Rows.fnExactIsCircularRow.wrapper Rows.fnExactIsCircularRow.mainSum:=by
 unfold Func.isWrapper; first | (rw [if_pos (by decide +kernel)]; kernel_rfl) | (rw [if_neg (by decide +kernel)]; exact⟨rfl,rfl⟩)
end Go.Proofs.YtomdlgffolbdkaaGreat

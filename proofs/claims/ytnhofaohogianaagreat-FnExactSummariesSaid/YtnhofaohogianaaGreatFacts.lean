/- Closed facts of the row: each is checked by the kernel; without conditions. -/
import Derived.JoinedOf
import Derived.Test.YtnhofaohogianaaGreatRows
set_option linter.unusedVariables false
set_option linter.unusedSimpArgs false
set_option linter.ambiguousOpen false
set_option linter.unusedSectionVars false
set_option linter.unnecessarySimpa false
set_option maxHeartbeats 100000000
set_option maxRecDepth 100000
namespace Go.Proofs.YtnhofaohogianaaGreat
open Go
theorem z7l:joinedFacts Tryz.pinned.checked.prog 3 Tryz.f3 Rows.fnExactSummariesSpec Rows.fnExactSummariesRow=true:=by
 simp only [joinedFacts,Bool.and_eq_true]
 repeat' apply And.intro
 all_goals as_aux_lemma=>kernel_rfl
theorem z6s:Tryz.pinned.checked.prog.funcNamed Rows.fnExactSummariesRow.func=some 3:=by kernel_rfl
theorem z7m:Tryz.f3.isInstance Tryz.pinned.checked.prog Rows.fnExactSummariesRow.origin Rows.fnExactSummariesRow.targs:=of_decide_eq_true (by kernel_rfl)
theorem z7n:Tryz.f3.isWrapper Tryz.pinned.checked.prog Rows.fnExactSummariesRow.wrapper Rows.fnExactSummariesRow.mainSum:=by
 unfold Func.isWrapper; first | (rw [if_pos (by decide +kernel)]; kernel_rfl) | (rw [if_neg (by decide +kernel)]; exact⟨rfl,rfl⟩)
end Go.Proofs.YtnhofaohogianaaGreat
